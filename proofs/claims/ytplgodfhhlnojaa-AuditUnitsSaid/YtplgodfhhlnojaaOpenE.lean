/- A slice that came in, of elements of any kind, as a list. -/
import Derived.Test.YtplgodfhhlnojaaKit
import Derived.ProofKit
import Derived.Deep.Slices
import Derived.ChangeArms
set_option linter.unusedSimpArgs false
set_option linter.unusedVariables false
namespace Go.Proofs.Ytplgodfhhlnojaa
open Go.ChangeShapes Go.WideShapes Go.ChangeAt Go.RowKit Go.Deep
def In64 (x : Int) : Prop := -9223372036854775808 ≤ x ∧ x ≤ 9223372036854775807
theorem wf64 {n : Int} (h : (Lit.int .i64 n).wf = true) : In64 n := by
  simp only [Lit.wf, Bool.and_eq_true, decide_eq_true_eq, IntKind.min, IntKind.max, IntKind.signed, IntKind.bits] at h
  unfold In64
  simp at h
  omega
theorem drop_take1 (l : List Value) (i : Nat) (u : Value) (h : (l.drop i).take 1 = [u]) : l[i]? = some u := by
  have := congrArg (·[0]?) h
  simpa using this
theorem cellsW {w : World} {g i : Nat} {cs : Array Value} {t : TypeId} {m : Nat × Nat} (h : w.heap[g]? = some (.cells cs t m)) : w.cell? ⟨g, i, none⟩ = cs[i]? := by simp [World.cell?, h]
theorem flat_len {α : Type} (f : α → List Value) (sz : Nat) (hf : ∀ o, (f o).length = sz) (l : List α) : (l.flatMap f).length = l.length * sz := by
  induction l with
  | nil => simp
  | cons a l ih => rw [List.flatMap_cons, List.length_append, ih, hf, List.length_cons, Nat.add_mul]; omega
theorem flat_at {α : Type} (f : α → List Value) (sz : Nat) (hf : ∀ o, (f o).length = sz) (l : List α) : ∀ (i j : Nat) (o : α), l[i]? = some o → j < sz → (l.flatMap f)[i * sz + j]? = (f o)[j]? := by
  induction l with
  | nil => intro i j o h; simp at h
  | cons a l ih =>
    intro i j o h hj
    rw [List.flatMap_cons]
    cases i with
    | zero =>
      simp at h
      subst h
      rw [Nat.zero_mul, Nat.zero_add, List.getElem?_append_left (by rw [hf]; exact hj)]
    | succ i =>
      have h' : l[i]? = some o := by simpa using h
      rw [List.getElem?_append_right (by rw [hf, Nat.add_mul]; omega), hf, ← ih i j o h' hj]
      congr 1
      rw [Nat.add_mul]
      omega
theorem list_of {α : Type} (P : Nat → α → Prop) : ∀ n, (∀ i, i < n → ∃ a, P i a) → ∃ l : List α, l.length = n ∧ ∀ i a, l[i]? = some a → P i a := by
  intro n
  induction n with
  | zero => intro _; exact ⟨[], rfl, fun i a h => by simp at h⟩
  | succ n ih =>
    intro h
    obtain ⟨l, hl, hp⟩ := ih (fun i hi => h i (by omega))
    obtain ⟨a, ha⟩ := h n (by omega)
    refine ⟨l ++ [a], by simp [hl], fun i b hb => ?_⟩
    rcases Nat.lt_or_ge i n with hi | hi
    · rw [List.getElem?_append_left (by omega)] at hb
      exact hp i b hb
    · rw [List.getElem?_append_right (by omega)] at hb
      have e : i - l.length = 0 := by
        rcases Nat.lt_or_ge (i - l.length) 1 with h0 | h0
        · omega
        · rw [List.getElem?_eq_none (by simpa using h0)] at hb; cases hb
      rw [e] at hb
      simp at hb
      subst hb
      have : i = n := by omega
      rw [this]; exact ha
theorem cell_ltE {w : World} {a : Addr} {v : Value} (h : w.cell? a = some v) : a.block < w.heap.size := by
  rcases Nat.lt_or_ge a.block w.heap.size with h' | h'
  · exact h'
  · simp [World.cell?, Array.getElem?_eq_none h'] at h
section
variable {H : Type} {enc : TypeId × Value → H} {P : Program} {W : World} {held : Bool}
theorem open_elems {α : Type} (f : α → List Value) (sz : Nat) (h0 : 0 < sz) (hf : ∀ o, (f o).length = sz) (Good : α → Prop) {t e : TypeId} (ht : P.underlying t = some (.slice e)) (hC : P.cellsOf e = sz)
    (hR : ∀ n cs y, DataW.trod enc P W 0 (fun _ => true) held n e cs = some y → ∃ o, cs = f o ∧ Good o) {base : Nat} {v : Value} {d : DataW H} {p : List MemPlace}
    (hok : Value.okWide P W .any base t v) (h : DataW.Trod enc P W 0 (fun _ => true) held t v d p) :
    ∃ A n c, ∃ os : List α, v = .slice A n c ∧ n ≤ c ∧ c ≤ maxLen ∧ os.length = n ∧ Rd W W.heap.size sz A n (os.flatMap f) ∧ ∀ o ∈ os, Good o := by
  obtain ⟨A, n, c, rfl⟩ := okWide_slice ht hok
  obtain ⟨fuel, hfu⟩ := h
  rcases open_slice ht hfu with ⟨hcs, _⟩ | ⟨a, len, cap, m, k, D, Pl, hcs, _, hl, hm, hmm, _, hi⟩
  · simp [Value.cells] at hcs
    obtain ⟨rfl, rfl, rfl⟩ := hcs
    exact ⟨none, 0, 0, [], rfl, Nat.le_refl _, Nat.zero_le _, rfl, Rd.nil, fun o ho => by simp at ho⟩
  · simp [Value.cells] at hcs
    obtain ⟨rfl, rfl, rfl⟩ := hcs
    simp only [if_true] at hmm
    have hex : ∀ i, i < n → ∃ o, Good o ∧ ∀ j, j < sz → W.cell? (a.add (i * sz + j)) = (f o)[j]? := by
      intro i hin
      obtain ⟨cs', hc, ht'⟩ := hi i (by omega)
      obtain ⟨o, rfl, hg⟩ := hR _ _ _ ht'
      rw [hC] at hc
      obtain ⟨_, _, hat⟩ := World.cells?_some hc
      exact ⟨o, hg, fun j hj => by rw [← add_add]; exact hat j hj⟩
    obtain ⟨os, hos, hp⟩ := list_of _ n hex
    refine ⟨_, _, _, os, rfl, hl, hm, hos, ⟨by rw [flat_len f sz hf, hos], fun hn => ⟨a, rfl, ?_, fun j u hu => ?_⟩⟩, fun o ho => ?_⟩
    · obtain ⟨o, ho⟩ : ∃ o, os[0]? = some o := ⟨_, List.getElem?_eq_getElem (by omega)⟩
      have h1 := (hp 0 o ho).2 0 h0
      rw [List.getElem?_eq_getElem (by rw [hf]; exact h0)] at h1
      have := cell_ltE h1
      rwa [block_add] at this
    · have hjl : j < n * sz := by
        rcases Nat.lt_or_ge j (n * sz) with h' | h'
        · exact h'
        · rw [List.getElem?_eq_none (by rw [flat_len f sz hf, hos]; exact h')] at hu; cases hu
      have hd : j / sz < n := Nat.div_lt_of_lt_mul (by rw [Nat.mul_comm]; exact hjl)
      obtain ⟨o, ho⟩ : ∃ o, os[j / sz]? = some o := ⟨_, List.getElem?_eq_getElem (by omega)⟩
      have e : j = j / sz * sz + j % sz := by rw [Nat.mul_comm]; exact (Nat.div_add_mod j sz).symm
      rw [e] at hu ⊢
      rw [flat_at f sz hf os _ _ o ho (Nat.mod_lt _ h0)] at hu
      rw [(hp _ o ho).2 _ (Nat.mod_lt _ h0), hu]
    · obtain ⟨i, hi', rfl⟩ := List.mem_iff_getElem.1 ho
      exact (hp i _ (List.getElem?_eq_getElem hi')).1
/-- A field's own reading. -/
theorem trod_field {fs : Array Field} {m : Nat} {cs : List Value} {xs : List (DataW H × List MemPlace)}
    (hf : ∀ (i : Nat) (f : Field), fs[i]? = some f → DataW.trod enc P W 0 (fun _ => true) held m f.type ((cs.drop f.offset).take (P.cellsOf f.type)) = xs[i]?) (i off sz : Nat) (T : TypeId) (f : Field)
    (hi : fs[i]? = some f) (ht : f.type = T) (ho : f.offset = off) (hc : P.cellsOf T = sz) : DataW.trod enc P W 0 (fun _ => true) held m T ((cs.drop off).take sz) = xs[i]? := by
  subst ht ho hc
  exact hf i f hi
end
/-- A field's cell as the walk spells it. -/
theorem cell_spell {w : World} {a : Addr} {i j : Nat} {u : Value} (hj : 0 < j) (h : w.cell? (a.add (i + j)) = some u) : w.cell? ⟨(a.add i).block, (a.add i).off + j, none⟩ = some u := by
  obtain ⟨b, o, s⟩ := a
  have e1 : (⟨b, o, s⟩ : Addr).add (i + j) = ⟨b, o + (i + j), none⟩ := by unfold Addr.add; rw [if_neg (by omega)]
  have e2 : ((⟨b, o, s⟩ : Addr).add i).off = o + i := by unfold Addr.add; split <;> simp_all
  rw [e1] at h
  rw [block_add, e2, Nat.add_assoc]
  exact h
/-- An element's cell, off its place. -/
theorem Rd.elem {α : Type} {f : α → List Value} {sz : Nat} (hf : ∀ o, (f o).length = sz) {w : World} {D n : Nat} {A : Option Addr} {os : List α} (h : Rd w D sz A n (os.flatMap f)) (hn : os.length = n) {k : Nat} (hk : k < n) :
    ∃ ad o, A = some ad ∧ ad.block < D ∧ os[k]? = some o ∧ ∀ j u, (f o)[j]? = some u → w.cell? (ad.add (k * sz + j)) = some u := by
  obtain ⟨ad, e, hb, hc⟩ := h.2 (by omega)
  obtain ⟨o, ho⟩ : ∃ o, os[k]? = some o := ⟨_, List.getElem?_eq_getElem (by omega)⟩
  refine ⟨ad, o, e, hb, ho, fun j u hu => hc _ _ ?_⟩
  have hj : j < sz := by
    rcases Nat.lt_or_ge j sz with h' | h'
    · exact h'
    · rw [List.getElem?_eq_none (by rw [hf]; exact h')] at hu; cases hu
  rw [flat_at f sz hf os k j o ho hj, hu]
end Go.Proofs.Ytplgodfhhlnojaa
