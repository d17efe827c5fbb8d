/- Small words of this seat's proofs: slices that read as lists, rows of bytes, frames. -/
import Derived.Test.YtplgodfhhlnojaaProg
import Derived.WalkKit
import Derived.WalkLawsBesides
import Derived.WalkSpells
import Derived.KernelRfl
import Derived.Lib.Hide
import Derived.Below
import Derived.Laws.OwnMore
import Derived.Deep.AppendLies
import Derived.Deep.Draws
import Derived.Deep.LoopGhost
import Derived.Deep.QuietTactic
import Derived.BigQuiet
import Derived.Maps.AppendAt
import Derived.RegionTactic
import Derived.OwnWalk
import Derived.Laws.BytesArg
import Derived.Lib.ConvBytes
import Derived.Lib.AppendStr
import Derived.Lib.SlBytesConst
import Derived.Laws.MakeOwn
import Derived.ArgAppend
import Derived.Deep.RegionHeld3
import Derived.Deep.DeepCutAuto
import Derived.Deep.CutBlock
import Derived.Deep.RegionWith
set_option linter.unusedSimpArgs false
set_option linter.unusedVariables false
namespace Go.Proofs.Ytplgodfhhlnojaa
open Go.RowKit

theorem ret_int {k : IntKind} {a b : Int} (h : a = b) : Ending.returned (.int k a) = .returned (.int k b) := by rw [h]
theorem ret_bool {a b : Bool} (h : a = b) : Ending.returned (.bool a) = .returned (.bool b) := by rw [h]
theorem ret_pair {v : Value} {k : IntKind} {a b : Int} (h : a = b) : Ending.returned (.tuple #[v, .int k a]) = .returned (.tuple #[v, .int k b]) := by rw [h]
theorem ret_str {a b : ByteArray} (h : a = b) : Ending.returned (.string a) = .returned (.string b) := by rw [h]

/-- Bytes as cells. -/
def B8 (l : List UInt8) : List Value := l.map fun b => Value.int .u8 b.toNat
theorem B8_len (l : List UInt8) : (B8 l).length = l.length := by simp [B8]
theorem B8_at (l : List UInt8) (k : Nat) (h : k < l.length) : (B8 l)[k]? = some (.int .u8 (l[k]'h).toNat) := by simp [B8, h]
theorem B8_app (a b : List UInt8) : B8 (a ++ b) = B8 a ++ B8 b := by simp [B8]
theorem B8_one (l : List UInt8) : ∀ u ∈ B8 l, u.oneCell' = true := by
  intro u hu
  simp only [B8, List.mem_map] at hu
  obtain ⟨b, _, rfl⟩ := hu
  rfl
theorem B8_str (s : ByteArray) : B8 s.data.toList = Lib.strCells s := rfl
theorem u8_lt (b : UInt8) : b.toNat < 256 := b.toNat_lt

theorem block_add (a : Addr) (n : Nat) : (a.add n).block = a.block := by unfold Addr.add; split <;> rfl
theorem add_add (a : Addr) (i j : Nat) : (a.add i).add j = a.add (i + j) := by
  unfold Addr.add
  by_cases hi : i = 0 <;> by_cases hj : j = 0 <;> simp [hi, hj, Nat.add_assoc]

/-- The slice value '.slice A n _' holds the cells xs (size cells an element), below block D. -/
def Rd (w : World) (D size : Nat) (A : Option Addr) (n : Nat) (xs : List Value) : Prop :=
  xs.length = n * size ∧ (0 < n → ∃ ad, A = some ad ∧ ad.block < D ∧ ∀ j u, xs[j]? = some u → w.cell? (ad.add j) = some u)
section
variable {w w' : World} {D D' size n : Nat} {A : Option Addr} {xs : List Value}
theorem Rd.nil : Rd w D size A 0 [] := ⟨by simp, fun h => absurd h (by omega)⟩
theorem Rd.at1 {k : Nat} (h : Rd w D 1 A n xs) (hk : k < n) : ∃ ad u, A = some ad ∧ ad.block < D ∧ xs[k]? = some u ∧ w.cell? (ad.add k) = some u := by
  obtain ⟨ad, e, hb, hc⟩ := h.2 (by omega)
  have hl : k < xs.length := by have := h.1; omega
  exact ⟨ad, xs[k], e, hb, List.getElem?_eq_getElem hl, hc k _ (List.getElem?_eq_getElem hl)⟩
theorem Rd.keep (h : Rd w D size A n xs) (hk : ∀ p : Addr, p.block < D → w'.cell? p = w.cell? p) : Rd w' D size A n xs :=
  ⟨h.1, fun hn => by
    obtain ⟨ad, e, hb, hc⟩ := h.2 hn
    exact ⟨ad, e, hb, fun j u hu => (hk _ (by rw [block_add]; exact hb)).trans (hc j u hu)⟩⟩
theorem Rd.more (h : Rd w D size A n xs) (hB : D ≤ D') : Rd w D' size A n xs :=
  ⟨h.1, fun hn => by
    obtain ⟨ad, e, hb, hc⟩ := h.2 hn
    exact ⟨ad, e, by omega, hc⟩⟩
theorem Rd.below (h : Rd w D size A n xs) (hb : Below D w w') : Rd w' D size A n xs := h.keep fun _ hp => hb.cell hp
theorem Rd.drew (h : Rd w D size A n xs) : Rd w.drew D size A n xs := h
theorem Rd.drewN (h : Rd w D size A n xs) (k : Nat) : Rd (w.drewN k) D size A n xs := h
theorem Rd.alloc (h : Rd w D size A n xs) (hB : D ≤ w.heap.size) (o : Obj) : Rd (w.alloc o) D size A n xs := h.keep fun p hp => World.cell?_alloc_lt w o p (by omega)
theorem Rd.setCell (h : Rd w D size A n xs) {p : Addr} (hB : D ≤ p.block) (u : Value) : Rd (w.setCell p u) D size A n xs :=
  h.keep fun q hq => World.cell?_setCell_other w p q u (fun e => by subst e; omega)
theorem Rd.grown (h : Rd w D size A n xs) {row : Option Nat} (hg : w.grownBy w' row) (hB : D ≤ w.heap.size) (hr : ∀ g, row = some g → D ≤ g) : Rd w' D size A n xs :=
  h.keep fun p hp => World.cell?_of_block (hg.block p.block (by omega) (fun e => by have := hr _ e.symm; omega))
theorem Rd.cut (h : Rd w D size A n xs) {k cap : Nat} (hk : k ≤ n) (hc : n ≤ cap) :
    Rd w D size (if cap = k then A else A.map (·.add (k * size))) (n - k) (xs.drop (k * size)) := by
  refine ⟨by rw [List.length_drop, h.1, Nat.sub_mul], fun hn => ?_⟩
  obtain ⟨ad, rfl, hb, hcell⟩ := h.2 (by omega)
  rw [if_neg (by omega)]
  refine ⟨ad.add (k * size), rfl, by rw [block_add]; exact hb, fun j u hu => ?_⟩
  rw [add_add]
  exact hcell _ u (by rw [← hu, List.getElem?_drop])
theorem Rd.take (h : Rd w D size A n xs) {k : Nat} (hk : k ≤ n) : Rd w D size A k (xs.take (k * size)) := by
  refine ⟨by rw [List.length_take, h.1]; exact Nat.min_eq_left (Nat.mul_le_mul_right _ hk), fun hn => ?_⟩
  obtain ⟨ad, e, hb, hcell⟩ := h.2 (by omega)
  exact ⟨ad, e, hb, fun j u hu => hcell j u (by rw [List.getElem?_take] at hu; split at hu; exact hu; cases hu)⟩
theorem Rd.of_own {base : Nat} {e : TypeId} {c : Nat} (h : w.ownsRow base e size (.slice A n c) n xs) : Rd w w.heap.size size A n xs := by
  refine ⟨h.1, fun hn => ?_⟩
  obtain ⟨g, cap, hv, _, hlt⟩ := h.form hn
  have hA : A = some ⟨g, 0, none⟩ := by injection hv
  subst hA
  exact ⟨_, rfl, hlt, h.cells (g := g) rfl⟩
theorem Rd.byte {l : List UInt8} {k : Nat} (h : Rd w D 1 A n (B8 l)) (hk : k < n) : ∃ ad, ∃ hl : k < l.length, A = some ad ∧ ad.block < D ∧ w.cell? (ad.add k) = some (.int .u8 (l[k]'hl).toNat) := by
  obtain ⟨ad, u, e, hb, hx, hc⟩ := h.at1 hk
  have hl : k < l.length := by have := h.1; rw [B8_len] at this; omega
  rw [B8_at l k hl] at hx
  cases hx
  exact ⟨ad, hl, e, hb, hc⟩
end
end Go.Proofs.Ytplgodfhhlnojaa
