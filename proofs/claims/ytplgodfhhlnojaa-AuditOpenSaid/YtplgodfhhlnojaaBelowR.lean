/- Regions that draw their order and hold calls that only make memory: one walk in the order of the text, over all worlds that are as the first one below a block. -/
import Derived.Test.YtplgodfhhlnojaaKit
set_option linter.unusedSimpArgs false
set_option linter.unusedVariables false
namespace Go.Proofs.Ytplgodfhhlnojaa
open Go.RowKit
/-- A world that is as w below block D. -/
structure BW (D : Nat) (w : World) where
  val : World
  h : Below D w val
instance (D : Nat) (w : World) : Nonempty (BW D w) := ⟨⟨w, Below.refl _ _⟩⟩
theorem wp_region_below {P : Program} {id : Nat} {Q : Exit → Act → World → Prop} {a : Act} {w : World} {l : List Oper} (D : Nat) (hm : P.follows .mixedOrders = true) (hB : Region.lexB .any l.toArray = true)
    (h : wpQuiet P l.toArray (fun w' => ∃ s : BW D w, w' = s.val) (fun a' => ∀ w', (∃ s : BW D w, w' = s.val) → Q .normal a' w') l a) : (Code.region id l.toArray true).wp P Q a w :=
  wp_region_quiet (C := fun w' => ∃ s : BW D w, w' = s.val) hm hB ⟨⟨w.drew, (Below.refl _ _).drew⟩, rfl⟩ (by simpa using h)
theorem BW.call {P : Program} {D : Nat} {w : World} {s : BW D w} {f : FuncId} {args : Array Value} {v : Value} (hD : D ≤ w.heap.size) (h : Calls P f args s.val (fun e w' => e = .returned v ∧ Below s.val.heap.size s.val w')) :
    Calls P f args s.val (fun e w'' => e = .returned v ∧ ∃ s' : BW D w, w'' = s'.val) :=
  h.mono fun _ w' ⟨he, hb⟩ => ⟨he, ⟨w', s.h.trans (hb.mono (Nat.le_trans hD s.h.size))⟩, rfl⟩
theorem BW.cell {D : Nat} {w : World} {a : Addr} {v : Value} (h : w.cell? a = some v) (ha : a.block < D) (s : BW D w) : s.val.cell? a = some v := (s.h.cell ha).trans h
end Go.Proofs.Ytplgodfhhlnojaa
