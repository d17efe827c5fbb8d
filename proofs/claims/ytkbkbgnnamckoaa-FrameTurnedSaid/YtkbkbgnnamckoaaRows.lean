/-
  No cell of these rows narrows 'for every input' (looked for: loops, veiled, ifaces, maps, wideKeys, modest, calm, conditions, laid).
  DERIVED. THE GIVEN ROWS OF THIS SEAT. 7 by the template 'for every input the law returns true; each argument reads behind the call as it read before'; 0 by the template 'total and deterministic' (their statements: YtkbkbgnnamckoaaTotals.lean).
  GIVEN WITH THE SEED: the statements are not yours to turn. If you find one false, say at which input.
  Laid BY PROGRAM, IN A SANDBOX (cutbox-rows.mjs): the forced cells as the released guide's own fill.sh prints them over the translation 9449da67bc63f5ce… (all of the seat's roots in one cut). By AI agents, Wed Nov 11 2026. No macro, syntax, notation, axiom, sorry.
-/
import Derived.Test.YtkbkbgnnamckoaaChecked
import GoSem.Claim
import GoSem.ClaimJoined
import GoSem.ClaimMapViews
import Derived.JoinedTies
import Derived.KernelRfl
namespace Go.Proofs.Ytkbkbgnnamckoaa
/- THE CELL 'sum', in the pinned program and in every row, IS THE sha256 OF THE DUMP (.gsa) THAT YtkbkbgnnamckoaaProg.lean LOADS. Nothing in Lean hashes anything: it is a label: what it is worth is what the hold of that sum in a sandbox is worth. -/
noncomputable def Try.pinned : Pinned := { name := "ytkbkbgnnamckoaa", sum := "9449da67bc63f5cec73e28cb5c9b4f1569211e1787780100b9f491fbe6603188", checked := Try.checked }
namespace Rows
def none {H : Type} : Left H := { results := [], args := [] }

/-- 'sojournlaw16.BackGrows': WHATEVER THE INPUT: true; the input reads as it did. -/
def backGrowsSpec : ChangeSpec := { name := "backGrows", fn := fun _ => fun
  | [d1, d2, d3] => { results := [.lit (.bool true)], args := [d1, d2, d3] }
  | _ => none }
def backGrowsRow : OpenClaim := { program := "ytkbkbgnnamckoaa", sum := "9449da67bc63f5cec73e28cb5c9b4f1569211e1787780100b9f491fbe6603188", func := "sojourn/sojournlaw16.BackGrows", spec := "backGrows", apart := false }
def BackGrowsSaid : Prop := backGrowsRow.holds Try.pinned (OpenSpec.ofChange backGrowsSpec)

/-- ITS FALSE NEIGHBOUR: 'it returns false'. Refute it at one input. -/
def backGrowsWrong : ChangeSpec := { name := "backGrows", fn := fun _ => fun
  | [d1, d2, d3] => { results := [.lit (.bool false)], args := [d1, d2, d3] }
  | _ => none }
def BackGrowsWrongFalsely : Prop := backGrowsRow.holds Try.pinned (OpenSpec.ofChange backGrowsWrong)

/-- 'sojournlaw16.BackSteps': WHATEVER THE INPUT: true; the input reads as it did. -/
def backStepsSpec : ChangeSpec := { name := "backSteps", fn := fun _ => fun
  | [d] => { results := [.lit (.bool true)], args := [d] }
  | _ => none }
def backStepsRow : OpenClaim := { program := "ytkbkbgnnamckoaa", sum := "9449da67bc63f5cec73e28cb5c9b4f1569211e1787780100b9f491fbe6603188", func := "sojourn/sojournlaw16.BackSteps", spec := "backSteps", apart := false }
def BackStepsSaid : Prop := backStepsRow.holds Try.pinned (OpenSpec.ofChange backStepsSpec)

/-- ITS FALSE NEIGHBOUR: 'it returns false'. Refute it at one input. -/
def backStepsWrong : ChangeSpec := { name := "backSteps", fn := fun _ => fun
  | [d] => { results := [.lit (.bool false)], args := [d] }
  | _ => none }
def BackStepsWrongFalsely : Prop := backStepsRow.holds Try.pinned (OpenSpec.ofChange backStepsWrong)

/-- 'sojournlaw4.FrameAsks': WHATEVER THE INPUT: true; the input reads as it did. -/
def frameAsksSpec : ChangeSpec := { name := "frameAsks", fn := fun _ => fun
  | [d1, d2, d3] => { results := [.lit (.bool true)], args := [d1, d2, d3] }
  | _ => none }
def frameAsksRow : OpenClaim := { program := "ytkbkbgnnamckoaa", sum := "9449da67bc63f5cec73e28cb5c9b4f1569211e1787780100b9f491fbe6603188", func := "sojourn/sojournlaw4.FrameAsks", spec := "frameAsks", unfollowed := true, recurses := true, apart := false }
def FrameAsksSaid : Prop := frameAsksRow.holds Try.pinned (OpenSpec.ofChange frameAsksSpec)

/-- ITS FALSE NEIGHBOUR: 'it returns false'. Refute it at one input. -/
def frameAsksWrong : ChangeSpec := { name := "frameAsks", fn := fun _ => fun
  | [d1, d2, d3] => { results := [.lit (.bool false)], args := [d1, d2, d3] }
  | _ => none }
def FrameAsksWrongFalsely : Prop := frameAsksRow.holds Try.pinned (OpenSpec.ofChange frameAsksWrong)

/-- 'sojournlaw4.FrameTorn': WHATEVER THE INPUT: true; the input reads as it did. -/
def frameTornSpec : ChangeSpec := { name := "frameTorn", fn := fun _ => fun
  | [d1, d2] => { results := [.lit (.bool true)], args := [d1, d2] }
  | _ => none }
def frameTornRow : OpenClaim := { program := "ytkbkbgnnamckoaa", sum := "9449da67bc63f5cec73e28cb5c9b4f1569211e1787780100b9f491fbe6603188", func := "sojourn/sojournlaw4.FrameTorn", spec := "frameTorn", unfollowed := true, recurses := true, apart := false }
def FrameTornSaid : Prop := frameTornRow.holds Try.pinned (OpenSpec.ofChange frameTornSpec)

/-- ITS FALSE NEIGHBOUR: 'it returns false'. Refute it at one input. -/
def frameTornWrong : ChangeSpec := { name := "frameTorn", fn := fun _ => fun
  | [d1, d2] => { results := [.lit (.bool false)], args := [d1, d2] }
  | _ => none }
def FrameTornWrongFalsely : Prop := frameTornRow.holds Try.pinned (OpenSpec.ofChange frameTornWrong)

/-- 'sojournlaw4.FrameTurned': WHATEVER THE INPUT: true; the input reads as it did. -/
def frameTurnedSpec : ChangeSpec := { name := "frameTurned", fn := fun _ => fun
  | [d1, d2, d3, d4] => { results := [.lit (.bool true)], args := [d1, d2, d3, d4] }
  | _ => none }
def frameTurnedRow : OpenClaim := { program := "ytkbkbgnnamckoaa", sum := "9449da67bc63f5cec73e28cb5c9b4f1569211e1787780100b9f491fbe6603188", func := "sojourn/sojournlaw4.FrameTurned", spec := "frameTurned", unfollowed := true, recurses := true, apart := false }
def FrameTurnedSaid : Prop := frameTurnedRow.holds Try.pinned (OpenSpec.ofChange frameTurnedSpec)

/-- ITS FALSE NEIGHBOUR: 'it returns false'. Refute it at one input. -/
def frameTurnedWrong : ChangeSpec := { name := "frameTurned", fn := fun _ => fun
  | [d1, d2, d3, d4] => { results := [.lit (.bool false)], args := [d1, d2, d3, d4] }
  | _ => none }
def FrameTurnedWrongFalsely : Prop := frameTurnedRow.holds Try.pinned (OpenSpec.ofChange frameTurnedWrong)

/-- 'sojournlaw4.FrameBounds': WHATEVER THE INPUT: true; the input reads as it did. -/
def frameBoundsSpec : ChangeSpec := { name := "frameBounds", fn := fun _ => fun
  | [d] => { results := [.lit (.bool true)], args := [d] }
  | _ => none }
def frameBoundsRow : OpenClaim := { program := "ytkbkbgnnamckoaa", sum := "9449da67bc63f5cec73e28cb5c9b4f1569211e1787780100b9f491fbe6603188", func := "sojourn/sojournlaw4.FrameBounds", spec := "frameBounds", unfollowed := true, recurses := true, apart := false }
def FrameBoundsSaid : Prop := frameBoundsRow.holds Try.pinned (OpenSpec.ofChange frameBoundsSpec)

/-- ITS FALSE NEIGHBOUR: 'it returns false'. Refute it at one input. -/
def frameBoundsWrong : ChangeSpec := { name := "frameBounds", fn := fun _ => fun
  | [d] => { results := [.lit (.bool false)], args := [d] }
  | _ => none }
def FrameBoundsWrongFalsely : Prop := frameBoundsRow.holds Try.pinned (OpenSpec.ofChange frameBoundsWrong)

/-- 'sojournlaw4.FramePlaces': WHATEVER THE INPUT: true; the input reads as it did. -/
def framePlacesSpec : ChangeSpec := { name := "framePlaces", fn := fun _ => fun
  | [d] => { results := [.lit (.bool true)], args := [d] }
  | _ => none }
def framePlacesRow : OpenClaim := { program := "ytkbkbgnnamckoaa", sum := "9449da67bc63f5cec73e28cb5c9b4f1569211e1787780100b9f491fbe6603188", func := "sojourn/sojournlaw4.FramePlaces", spec := "framePlaces", unfollowed := true, recurses := true, apart := false }
def FramePlacesSaid : Prop := framePlacesRow.holds Try.pinned (OpenSpec.ofChange framePlacesSpec)

/-- ITS FALSE NEIGHBOUR: 'it returns false'. Refute it at one input. -/
def framePlacesWrong : ChangeSpec := { name := "framePlaces", fn := fun _ => fun
  | [d] => { results := [.lit (.bool false)], args := [d] }
  | _ => none }
def FramePlacesWrongFalsely : Prop := framePlacesRow.holds Try.pinned (OpenSpec.ofChange framePlacesWrong)

/- THE SECOND FORM. 'bulk': how many values and letters a reading holds, each counted each time it is reached (what is shared counts as often as it is met; a slice's spare places count too). A statement '..UptoSaid' is the law's where the arguments, and the package variables that the reading takes, are together of bulk at most 1048576: NARROWER than '..Said'. Prove '..Said' where nothing that the law and all that it calls make is longer than what came in: it says more and counts as full. Else prove '..UptoSaid'. A law counts once. -/
mutual
def uptoBulk {H : Type} : DataW H → Nat
  | .lit (.string bytes) => bytes.length + 1
  | .lit _ => 1
  | .nil => 1
  | .ptr d => uptoBulk d + 1
  | .slice elems spare => uptoBulkAll elems + uptoBulkAll spare + 1
  | .agg parts => uptoBulkAll parts + 1
  | .iface _ d => uptoBulk d + 1
  | .map entries => uptoBulkEntries entries + 1
  | .held _ => 1
def uptoBulkAll {H : Type} : List (DataW H) → Nat
  | [] => 0
  | d :: r => uptoBulk d + uptoBulkAll r
def uptoBulkEntries {H : Type} : List (Lit × DataW H) → Nat
  | [] => 0
  | x :: r => uptoBulkEntry x + uptoBulkEntries r
def uptoBulkEntry {H : Type} : Lit × DataW H → Nat
  | (.string bytes, d) => bytes.length + uptoBulk d + 1
  | (_, d) => uptoBulk d + 1
 end
def uptoSmall : (H : Type) → List (DataW H) → Bool := fun _ ds => decide (uptoBulkAll ds ≤ 1048576)
def OpenSpec.upto (s : _root_.Go.ChangeSpec) : _root_.Go.OpenSpec := { _root_.Go.OpenSpec.ofChange s with cond := some uptoSmall }

/-- 'sojournlaw16.BackGrows', WHERE WHAT IT READS IS OF BULK AT MOST 1048576: true; the input reads as it did. -/
def backGrowsUptoRow : OpenClaim := { program := "ytkbkbgnnamckoaa", sum := "9449da67bc63f5cec73e28cb5c9b4f1569211e1787780100b9f491fbe6603188", func := "sojourn/sojournlaw16.BackGrows", spec := "backGrows", apart := false, narrowed := true }
def BackGrowsUptoSaid : Prop := backGrowsUptoRow.holds Try.pinned (OpenSpec.upto backGrowsSpec)

/-- 'sojournlaw16.BackSteps', WHERE WHAT IT READS IS OF BULK AT MOST 1048576: true; the input reads as it did. -/
def backStepsUptoRow : OpenClaim := { program := "ytkbkbgnnamckoaa", sum := "9449da67bc63f5cec73e28cb5c9b4f1569211e1787780100b9f491fbe6603188", func := "sojourn/sojournlaw16.BackSteps", spec := "backSteps", apart := false, narrowed := true }
def BackStepsUptoSaid : Prop := backStepsUptoRow.holds Try.pinned (OpenSpec.upto backStepsSpec)

/-- 'sojournlaw4.FrameAsks', WHERE WHAT IT READS IS OF BULK AT MOST 1048576: true; the input reads as it did. -/
def frameAsksUptoRow : OpenClaim := { program := "ytkbkbgnnamckoaa", sum := "9449da67bc63f5cec73e28cb5c9b4f1569211e1787780100b9f491fbe6603188", func := "sojourn/sojournlaw4.FrameAsks", spec := "frameAsks", unfollowed := true, recurses := true, apart := false, narrowed := true }
def FrameAsksUptoSaid : Prop := frameAsksUptoRow.holds Try.pinned (OpenSpec.upto frameAsksSpec)

/-- 'sojournlaw4.FrameTorn', WHERE WHAT IT READS IS OF BULK AT MOST 1048576: true; the input reads as it did. -/
def frameTornUptoRow : OpenClaim := { program := "ytkbkbgnnamckoaa", sum := "9449da67bc63f5cec73e28cb5c9b4f1569211e1787780100b9f491fbe6603188", func := "sojourn/sojournlaw4.FrameTorn", spec := "frameTorn", unfollowed := true, recurses := true, apart := false, narrowed := true }
def FrameTornUptoSaid : Prop := frameTornUptoRow.holds Try.pinned (OpenSpec.upto frameTornSpec)

/-- 'sojournlaw4.FrameTurned', WHERE WHAT IT READS IS OF BULK AT MOST 1048576: true; the input reads as it did. -/
def frameTurnedUptoRow : OpenClaim := { program := "ytkbkbgnnamckoaa", sum := "9449da67bc63f5cec73e28cb5c9b4f1569211e1787780100b9f491fbe6603188", func := "sojourn/sojournlaw4.FrameTurned", spec := "frameTurned", unfollowed := true, recurses := true, apart := false, narrowed := true }
def FrameTurnedUptoSaid : Prop := frameTurnedUptoRow.holds Try.pinned (OpenSpec.upto frameTurnedSpec)

/-- 'sojournlaw4.FrameBounds', WHERE WHAT IT READS IS OF BULK AT MOST 1048576: true; the input reads as it did. -/
def frameBoundsUptoRow : OpenClaim := { program := "ytkbkbgnnamckoaa", sum := "9449da67bc63f5cec73e28cb5c9b4f1569211e1787780100b9f491fbe6603188", func := "sojourn/sojournlaw4.FrameBounds", spec := "frameBounds", unfollowed := true, recurses := true, apart := false, narrowed := true }
def FrameBoundsUptoSaid : Prop := frameBoundsUptoRow.holds Try.pinned (OpenSpec.upto frameBoundsSpec)

/-- 'sojournlaw4.FramePlaces', WHERE WHAT IT READS IS OF BULK AT MOST 1048576: true; the input reads as it did. -/
def framePlacesUptoRow : OpenClaim := { program := "ytkbkbgnnamckoaa", sum := "9449da67bc63f5cec73e28cb5c9b4f1569211e1787780100b9f491fbe6603188", func := "sojourn/sojournlaw4.FramePlaces", spec := "framePlaces", unfollowed := true, recurses := true, apart := false, narrowed := true }
def FramePlacesUptoSaid : Prop := framePlacesUptoRow.holds Try.pinned (OpenSpec.upto framePlacesSpec)

end Rows
end Go.Proofs.Ytkbkbgnnamckoaa
