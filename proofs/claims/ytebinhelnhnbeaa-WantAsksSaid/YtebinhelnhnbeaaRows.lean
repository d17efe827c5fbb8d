/-
  No cell of these rows narrows 'for every input' (looked for: loops, veiled, ifaces, maps, wideKeys, modest, calm, conditions, laid).
  DERIVED. THE GIVEN ROWS OF THIS SEAT. 14 by the template 'for every input the law returns true; each argument reads behind the call as it read before'; 0 by the template 'total and deterministic' (their statements: YtebinhelnhnbeaaTotals.lean).
  GIVEN WITH THE SEED: the statements are not yours to turn. If you find one false, say at which input.
  Laid BY PROGRAM, IN A SANDBOX (cutbox-rows.mjs): the forced cells as the released guide's own fill.sh prints them over the translation 6c81f07f9493d38b… (all of the seat's roots in one cut). By AI agents, Wed Nov 11 2026. No macro, syntax, notation, axiom, sorry.
-/
import Derived.Test.YtebinhelnhnbeaaChecked
import GoSem.Claim
import GoSem.ClaimJoined
import GoSem.ClaimMapViews
import Derived.JoinedTies
import Derived.KernelRfl
namespace Go.Proofs.Ytebinhelnhnbeaa
/- THE CELL 'sum', in the pinned program and in every row, IS THE sha256 OF THE DUMP (.gsa) THAT YtebinhelnhnbeaaProg.lean LOADS. Nothing in Lean hashes anything: it is a label: what it is worth is what the hold of that sum in a sandbox is worth. -/
noncomputable def Try.pinned : Pinned := { name := "ytebinhelnhnbeaa", sum := "6c81f07f9493d38bd119e9df3b347d8e9f40d6935233ee70b2a8d4ba663574fc", checked := Try.checked }
namespace Rows
def none {H : Type} : Left H := { results := [], args := [] }

/-- 'sojournlaw1.PackWrites': WHATEVER THE INPUT: true; the input reads as it did. -/
def packWritesSpec : ChangeSpec := { name := "packWrites", fn := fun _ => fun
  | [d] => { results := [.lit (.bool true)], args := [d] }
  | _ => none }
def packWritesRow : OpenClaim := { program := "ytebinhelnhnbeaa", sum := "6c81f07f9493d38bd119e9df3b347d8e9f40d6935233ee70b2a8d4ba663574fc", func := "sojourn/sojournlaw1.PackWrites", spec := "packWrites", unfollowed := true, recurses := true, apart := false }
def PackWritesSaid : Prop := packWritesRow.holds Try.pinned (OpenSpec.ofChange packWritesSpec)

/-- ITS FALSE NEIGHBOUR: 'it returns false'. Refute it at one input. -/
def packWritesWrong : ChangeSpec := { name := "packWrites", fn := fun _ => fun
  | [d] => { results := [.lit (.bool false)], args := [d] }
  | _ => none }
def PackWritesWrongFalsely : Prop := packWritesRow.holds Try.pinned (OpenSpec.ofChange packWritesWrong)

/-- 'sojournlaw1.PackReads': WHATEVER THE INPUT: true; the input reads as it did. -/
def packReadsSpec : ChangeSpec := { name := "packReads", fn := fun _ => fun
  | [d1, d2] => { results := [.lit (.bool true)], args := [d1, d2] }
  | _ => none }
def packReadsRow : OpenClaim := { program := "ytebinhelnhnbeaa", sum := "6c81f07f9493d38bd119e9df3b347d8e9f40d6935233ee70b2a8d4ba663574fc", func := "sojourn/sojournlaw1.PackReads", spec := "packReads", unfollowed := true, recurses := true, apart := false }
def PackReadsSaid : Prop := packReadsRow.holds Try.pinned (OpenSpec.ofChange packReadsSpec)

/-- ITS FALSE NEIGHBOUR: 'it returns false'. Refute it at one input. -/
def packReadsWrong : ChangeSpec := { name := "packReads", fn := fun _ => fun
  | [d1, d2] => { results := [.lit (.bool false)], args := [d1, d2] }
  | _ => none }
def PackReadsWrongFalsely : Prop := packReadsRow.holds Try.pinned (OpenSpec.ofChange packReadsWrong)

/-- 'sojournlaw1.PackBack': WHATEVER THE INPUT: true; the input reads as it did. -/
def packBackSpec : ChangeSpec := { name := "packBack", fn := fun _ => fun
  | [d1, d2] => { results := [.lit (.bool true)], args := [d1, d2] }
  | _ => none }
def packBackRow : OpenClaim := { program := "ytebinhelnhnbeaa", sum := "6c81f07f9493d38bd119e9df3b347d8e9f40d6935233ee70b2a8d4ba663574fc", func := "sojourn/sojournlaw1.PackBack", spec := "packBack", unfollowed := true, recurses := true, apart := false }
def PackBackSaid : Prop := packBackRow.holds Try.pinned (OpenSpec.ofChange packBackSpec)

/-- ITS FALSE NEIGHBOUR: 'it returns false'. Refute it at one input. -/
def packBackWrong : ChangeSpec := { name := "packBack", fn := fun _ => fun
  | [d1, d2] => { results := [.lit (.bool false)], args := [d1, d2] }
  | _ => none }
def PackBackWrongFalsely : Prop := packBackRow.holds Try.pinned (OpenSpec.ofChange packBackWrong)

/-- 'sojournlaw1.PackForms': WHATEVER THE INPUT: true; the input reads as it did. -/
def packFormsSpec : ChangeSpec := { name := "packForms", fn := fun _ => fun
  | [d1, d2, d3, d4] => { results := [.lit (.bool true)], args := [d1, d2, d3, d4] }
  | _ => none }
def packFormsRow : OpenClaim := { program := "ytebinhelnhnbeaa", sum := "6c81f07f9493d38bd119e9df3b347d8e9f40d6935233ee70b2a8d4ba663574fc", func := "sojourn/sojournlaw1.PackForms", spec := "packForms", unfollowed := true, recurses := true, apart := false }
def PackFormsSaid : Prop := packFormsRow.holds Try.pinned (OpenSpec.ofChange packFormsSpec)

/-- ITS FALSE NEIGHBOUR: 'it returns false'. Refute it at one input. -/
def packFormsWrong : ChangeSpec := { name := "packForms", fn := fun _ => fun
  | [d1, d2, d3, d4] => { results := [.lit (.bool false)], args := [d1, d2, d3, d4] }
  | _ => none }
def PackFormsWrongFalsely : Prop := packFormsRow.holds Try.pinned (OpenSpec.ofChange packFormsWrong)

/-- 'sojournlaw1.PackSums': WHATEVER THE INPUT: true; the input reads as it did. -/
def packSumsSpec : ChangeSpec := { name := "packSums", fn := fun _ => fun
  | [d1, d2, d3] => { results := [.lit (.bool true)], args := [d1, d2, d3] }
  | _ => none }
def packSumsRow : OpenClaim := { program := "ytebinhelnhnbeaa", sum := "6c81f07f9493d38bd119e9df3b347d8e9f40d6935233ee70b2a8d4ba663574fc", func := "sojourn/sojournlaw1.PackSums", spec := "packSums", unfollowed := true, recurses := true, apart := false }
def PackSumsSaid : Prop := packSumsRow.holds Try.pinned (OpenSpec.ofChange packSumsSpec)

/-- ITS FALSE NEIGHBOUR: 'it returns false'. Refute it at one input. -/
def packSumsWrong : ChangeSpec := { name := "packSums", fn := fun _ => fun
  | [d1, d2, d3] => { results := [.lit (.bool false)], args := [d1, d2, d3] }
  | _ => none }
def PackSumsWrongFalsely : Prop := packSumsRow.holds Try.pinned (OpenSpec.ofChange packSumsWrong)

/-- 'sojournlaw1.PackNobody': WHATEVER THE INPUT: true; the input reads as it did. -/
def packNobodySpec : ChangeSpec := { name := "packNobody", fn := fun _ => fun
  | [d1, d2] => { results := [.lit (.bool true)], args := [d1, d2] }
  | _ => none }
def packNobodyRow : OpenClaim := { program := "ytebinhelnhnbeaa", sum := "6c81f07f9493d38bd119e9df3b347d8e9f40d6935233ee70b2a8d4ba663574fc", func := "sojourn/sojournlaw1.PackNobody", spec := "packNobody", unfollowed := true, recurses := true, apart := false }
def PackNobodySaid : Prop := packNobodyRow.holds Try.pinned (OpenSpec.ofChange packNobodySpec)

/-- ITS FALSE NEIGHBOUR: 'it returns false'. Refute it at one input. -/
def packNobodyWrong : ChangeSpec := { name := "packNobody", fn := fun _ => fun
  | [d1, d2] => { results := [.lit (.bool false)], args := [d1, d2] }
  | _ => none }
def PackNobodyWrongFalsely : Prop := packNobodyRow.holds Try.pinned (OpenSpec.ofChange packNobodyWrong)

/-- 'sojournlaw1.PackSmall': WHATEVER THE INPUT: true; the input reads as it did. -/
def packSmallSpec : ChangeSpec := { name := "packSmall", fn := fun _ => fun
  | [d] => { results := [.lit (.bool true)], args := [d] }
  | _ => none }
def packSmallRow : OpenClaim := { program := "ytebinhelnhnbeaa", sum := "6c81f07f9493d38bd119e9df3b347d8e9f40d6935233ee70b2a8d4ba663574fc", func := "sojourn/sojournlaw1.PackSmall", spec := "packSmall", unfollowed := true, recurses := true, apart := false }
def PackSmallSaid : Prop := packSmallRow.holds Try.pinned (OpenSpec.ofChange packSmallSpec)

/-- ITS FALSE NEIGHBOUR: 'it returns false'. Refute it at one input. -/
def packSmallWrong : ChangeSpec := { name := "packSmall", fn := fun _ => fun
  | [d] => { results := [.lit (.bool false)], args := [d] }
  | _ => none }
def PackSmallWrongFalsely : Prop := packSmallRow.holds Try.pinned (OpenSpec.ofChange packSmallWrong)

/-- 'sojournlaw1.PackWrong': WHATEVER THE INPUT: true; the input reads as it did. -/
def packWrongSpec : ChangeSpec := { name := "packWrong", fn := fun _ => fun
  | [d1, d2] => { results := [.lit (.bool true)], args := [d1, d2] }
  | _ => none }
def packWrongRow : OpenClaim := { program := "ytebinhelnhnbeaa", sum := "6c81f07f9493d38bd119e9df3b347d8e9f40d6935233ee70b2a8d4ba663574fc", func := "sojourn/sojournlaw1.PackWrong", spec := "packWrong", unfollowed := true, recurses := true, apart := false }
def PackWrongSaid : Prop := packWrongRow.holds Try.pinned (OpenSpec.ofChange packWrongSpec)

/-- ITS FALSE NEIGHBOUR: 'it returns false'. Refute it at one input. -/
def packWrongWrong : ChangeSpec := { name := "packWrong", fn := fun _ => fun
  | [d1, d2] => { results := [.lit (.bool false)], args := [d1, d2] }
  | _ => none }
def PackWrongWrongFalsely : Prop := packWrongRow.holds Try.pinned (OpenSpec.ofChange packWrongWrong)

/-- 'sojournlaw3.WantParts': WHATEVER THE INPUT: true; the input reads as it did. -/
def wantPartsSpec : ChangeSpec := { name := "wantParts", fn := fun _ => fun
  | [d1, d2, d3] => { results := [.lit (.bool true)], args := [d1, d2, d3] }
  | _ => none }
def wantPartsRow : OpenClaim := { program := "ytebinhelnhnbeaa", sum := "6c81f07f9493d38bd119e9df3b347d8e9f40d6935233ee70b2a8d4ba663574fc", func := "sojourn/sojournlaw3.WantParts", spec := "wantParts", unfollowed := true, recurses := true, apart := false }
def WantPartsSaid : Prop := wantPartsRow.holds Try.pinned (OpenSpec.ofChange wantPartsSpec)

/-- ITS FALSE NEIGHBOUR: 'it returns false'. Refute it at one input. -/
def wantPartsWrong : ChangeSpec := { name := "wantParts", fn := fun _ => fun
  | [d1, d2, d3] => { results := [.lit (.bool false)], args := [d1, d2, d3] }
  | _ => none }
def WantPartsWrongFalsely : Prop := wantPartsRow.holds Try.pinned (OpenSpec.ofChange wantPartsWrong)

/-- 'sojournlaw3.WantAsks': WHATEVER THE INPUT: true; the input reads as it did. -/
def wantAsksSpec : ChangeSpec := { name := "wantAsks", fn := fun _ => fun
  | [d1, d2, d3] => { results := [.lit (.bool true)], args := [d1, d2, d3] }
  | _ => none }
def wantAsksRow : OpenClaim := { program := "ytebinhelnhnbeaa", sum := "6c81f07f9493d38bd119e9df3b347d8e9f40d6935233ee70b2a8d4ba663574fc", func := "sojourn/sojournlaw3.WantAsks", spec := "wantAsks", unfollowed := true, recurses := true, apart := false }
def WantAsksSaid : Prop := wantAsksRow.holds Try.pinned (OpenSpec.ofChange wantAsksSpec)

/-- ITS FALSE NEIGHBOUR: 'it returns false'. Refute it at one input. -/
def wantAsksWrong : ChangeSpec := { name := "wantAsks", fn := fun _ => fun
  | [d1, d2, d3] => { results := [.lit (.bool false)], args := [d1, d2, d3] }
  | _ => none }
def WantAsksWrongFalsely : Prop := wantAsksRow.holds Try.pinned (OpenSpec.ofChange wantAsksWrong)

/-- 'sojournlaw3.WantBack': WHATEVER THE INPUT: true; the input reads as it did. -/
def wantBackSpec : ChangeSpec := { name := "wantBack", fn := fun _ => fun
  | [d1, d2, d3, d4, d5] => { results := [.lit (.bool true)], args := [d1, d2, d3, d4, d5] }
  | _ => none }
def wantBackRow : OpenClaim := { program := "ytebinhelnhnbeaa", sum := "6c81f07f9493d38bd119e9df3b347d8e9f40d6935233ee70b2a8d4ba663574fc", func := "sojourn/sojournlaw3.WantBack", spec := "wantBack", unfollowed := true, recurses := true, apart := false }
def WantBackSaid : Prop := wantBackRow.holds Try.pinned (OpenSpec.ofChange wantBackSpec)

/-- ITS FALSE NEIGHBOUR: 'it returns false'. Refute it at one input. -/
def wantBackWrong : ChangeSpec := { name := "wantBack", fn := fun _ => fun
  | [d1, d2, d3, d4, d5] => { results := [.lit (.bool false)], args := [d1, d2, d3, d4, d5] }
  | _ => none }
def WantBackWrongFalsely : Prop := wantBackRow.holds Try.pinned (OpenSpec.ofChange wantBackWrong)

/-- 'sojournlaw3.WantBounds': WHATEVER THE INPUT: true; the input reads as it did. -/
def wantBoundsSpec : ChangeSpec := { name := "wantBounds", fn := fun _ => fun
  | [d1, d2, d3] => { results := [.lit (.bool true)], args := [d1, d2, d3] }
  | _ => none }
def wantBoundsRow : OpenClaim := { program := "ytebinhelnhnbeaa", sum := "6c81f07f9493d38bd119e9df3b347d8e9f40d6935233ee70b2a8d4ba663574fc", func := "sojourn/sojournlaw3.WantBounds", spec := "wantBounds", unfollowed := true, recurses := true, apart := false }
def WantBoundsSaid : Prop := wantBoundsRow.holds Try.pinned (OpenSpec.ofChange wantBoundsSpec)

/-- ITS FALSE NEIGHBOUR: 'it returns false'. Refute it at one input. -/
def wantBoundsWrong : ChangeSpec := { name := "wantBounds", fn := fun _ => fun
  | [d1, d2, d3] => { results := [.lit (.bool false)], args := [d1, d2, d3] }
  | _ => none }
def WantBoundsWrongFalsely : Prop := wantBoundsRow.holds Try.pinned (OpenSpec.ofChange wantBoundsWrong)

/-- 'sojournlaw3.WantKinds': WHATEVER THE INPUT: true; the input reads as it did. -/
def wantKindsSpec : ChangeSpec := { name := "wantKinds", fn := fun _ => fun
  | [d1, d2, d3, d4] => { results := [.lit (.bool true)], args := [d1, d2, d3, d4] }
  | _ => none }
def wantKindsRow : OpenClaim := { program := "ytebinhelnhnbeaa", sum := "6c81f07f9493d38bd119e9df3b347d8e9f40d6935233ee70b2a8d4ba663574fc", func := "sojourn/sojournlaw3.WantKinds", spec := "wantKinds", unfollowed := true, recurses := true, apart := false }
def WantKindsSaid : Prop := wantKindsRow.holds Try.pinned (OpenSpec.ofChange wantKindsSpec)

/-- ITS FALSE NEIGHBOUR: 'it returns false'. Refute it at one input. -/
def wantKindsWrong : ChangeSpec := { name := "wantKinds", fn := fun _ => fun
  | [d1, d2, d3, d4] => { results := [.lit (.bool false)], args := [d1, d2, d3, d4] }
  | _ => none }
def WantKindsWrongFalsely : Prop := wantKindsRow.holds Try.pinned (OpenSpec.ofChange wantKindsWrong)

/-- 'sojournlaw3.WantTurned': WHATEVER THE INPUT: true; the input reads as it did. -/
def wantTurnedSpec : ChangeSpec := { name := "wantTurned", fn := fun _ => fun
  | [d1, d2, d3] => { results := [.lit (.bool true)], args := [d1, d2, d3] }
  | _ => none }
def wantTurnedRow : OpenClaim := { program := "ytebinhelnhnbeaa", sum := "6c81f07f9493d38bd119e9df3b347d8e9f40d6935233ee70b2a8d4ba663574fc", func := "sojourn/sojournlaw3.WantTurned", spec := "wantTurned", unfollowed := true, recurses := true, apart := false }
def WantTurnedSaid : Prop := wantTurnedRow.holds Try.pinned (OpenSpec.ofChange wantTurnedSpec)

/-- ITS FALSE NEIGHBOUR: 'it returns false'. Refute it at one input. -/
def wantTurnedWrong : ChangeSpec := { name := "wantTurned", fn := fun _ => fun
  | [d1, d2, d3] => { results := [.lit (.bool false)], args := [d1, d2, d3] }
  | _ => none }
def WantTurnedWrongFalsely : Prop := wantTurnedRow.holds Try.pinned (OpenSpec.ofChange wantTurnedWrong)

/- THE SECOND FORM. 'bulk': how many values and letters a reading holds, each counted each time it is reached (what is shared counts as often as it is met; a slice's spare places count too). A statement '..UptoSaid' is the law's where the arguments, and the package variables that the reading takes, are together of bulk at most 1048576: NARROWER than '..Said'. Prove '..Said' where nothing that the law and all that it calls make is longer than what came in: it says more and counts as full. Else prove '..UptoSaid'. A law counts once. -/
mutual
def uptoBulk {H : Type} : DataW H → Nat
  | .lit (.string bytes) => bytes.length + 1
  | .lit _ => 1
  | .nil => 1
  | .ptr d => uptoBulk d + 1
  | .slice elems spare => uptoBulkAll elems + uptoBulkAll spare + 1
  | .agg parts => uptoBulkAll parts + 1
  | .iface _ d => uptoBulk d + 1
  | .map entries => uptoBulkEntries entries + 1
  | .held _ => 1
def uptoBulkAll {H : Type} : List (DataW H) → Nat
  | [] => 0
  | d :: r => uptoBulk d + uptoBulkAll r
def uptoBulkEntries {H : Type} : List (Lit × DataW H) → Nat
  | [] => 0
  | x :: r => uptoBulkEntry x + uptoBulkEntries r
def uptoBulkEntry {H : Type} : Lit × DataW H → Nat
  | (.string bytes, d) => bytes.length + uptoBulk d + 1
  | (_, d) => uptoBulk d + 1
 end
def uptoSmall : (H : Type) → List (DataW H) → Bool := fun _ ds => decide (uptoBulkAll ds ≤ 1048576)
def OpenSpec.upto (s : _root_.Go.ChangeSpec) : _root_.Go.OpenSpec := { _root_.Go.OpenSpec.ofChange s with cond := some uptoSmall }

/-- 'sojournlaw1.PackWrites', WHERE WHAT IT READS IS OF BULK AT MOST 1048576: true; the input reads as it did. -/
def packWritesUptoRow : OpenClaim := { program := "ytebinhelnhnbeaa", sum := "6c81f07f9493d38bd119e9df3b347d8e9f40d6935233ee70b2a8d4ba663574fc", func := "sojourn/sojournlaw1.PackWrites", spec := "packWrites", unfollowed := true, recurses := true, apart := false, narrowed := true }
def PackWritesUptoSaid : Prop := packWritesUptoRow.holds Try.pinned (OpenSpec.upto packWritesSpec)

/-- 'sojournlaw1.PackReads', WHERE WHAT IT READS IS OF BULK AT MOST 1048576: true; the input reads as it did. -/
def packReadsUptoRow : OpenClaim := { program := "ytebinhelnhnbeaa", sum := "6c81f07f9493d38bd119e9df3b347d8e9f40d6935233ee70b2a8d4ba663574fc", func := "sojourn/sojournlaw1.PackReads", spec := "packReads", unfollowed := true, recurses := true, apart := false, narrowed := true }
def PackReadsUptoSaid : Prop := packReadsUptoRow.holds Try.pinned (OpenSpec.upto packReadsSpec)

/-- 'sojournlaw1.PackBack', WHERE WHAT IT READS IS OF BULK AT MOST 1048576: true; the input reads as it did. -/
def packBackUptoRow : OpenClaim := { program := "ytebinhelnhnbeaa", sum := "6c81f07f9493d38bd119e9df3b347d8e9f40d6935233ee70b2a8d4ba663574fc", func := "sojourn/sojournlaw1.PackBack", spec := "packBack", unfollowed := true, recurses := true, apart := false, narrowed := true }
def PackBackUptoSaid : Prop := packBackUptoRow.holds Try.pinned (OpenSpec.upto packBackSpec)

/-- 'sojournlaw1.PackForms', WHERE WHAT IT READS IS OF BULK AT MOST 1048576: true; the input reads as it did. -/
def packFormsUptoRow : OpenClaim := { program := "ytebinhelnhnbeaa", sum := "6c81f07f9493d38bd119e9df3b347d8e9f40d6935233ee70b2a8d4ba663574fc", func := "sojourn/sojournlaw1.PackForms", spec := "packForms", unfollowed := true, recurses := true, apart := false, narrowed := true }
def PackFormsUptoSaid : Prop := packFormsUptoRow.holds Try.pinned (OpenSpec.upto packFormsSpec)

/-- 'sojournlaw1.PackSums', WHERE WHAT IT READS IS OF BULK AT MOST 1048576: true; the input reads as it did. -/
def packSumsUptoRow : OpenClaim := { program := "ytebinhelnhnbeaa", sum := "6c81f07f9493d38bd119e9df3b347d8e9f40d6935233ee70b2a8d4ba663574fc", func := "sojourn/sojournlaw1.PackSums", spec := "packSums", unfollowed := true, recurses := true, apart := false, narrowed := true }
def PackSumsUptoSaid : Prop := packSumsUptoRow.holds Try.pinned (OpenSpec.upto packSumsSpec)

/-- 'sojournlaw1.PackNobody', WHERE WHAT IT READS IS OF BULK AT MOST 1048576: true; the input reads as it did. -/
def packNobodyUptoRow : OpenClaim := { program := "ytebinhelnhnbeaa", sum := "6c81f07f9493d38bd119e9df3b347d8e9f40d6935233ee70b2a8d4ba663574fc", func := "sojourn/sojournlaw1.PackNobody", spec := "packNobody", unfollowed := true, recurses := true, apart := false, narrowed := true }
def PackNobodyUptoSaid : Prop := packNobodyUptoRow.holds Try.pinned (OpenSpec.upto packNobodySpec)

/-- 'sojournlaw1.PackSmall', WHERE WHAT IT READS IS OF BULK AT MOST 1048576: true; the input reads as it did. -/
def packSmallUptoRow : OpenClaim := { program := "ytebinhelnhnbeaa", sum := "6c81f07f9493d38bd119e9df3b347d8e9f40d6935233ee70b2a8d4ba663574fc", func := "sojourn/sojournlaw1.PackSmall", spec := "packSmall", unfollowed := true, recurses := true, apart := false, narrowed := true }
def PackSmallUptoSaid : Prop := packSmallUptoRow.holds Try.pinned (OpenSpec.upto packSmallSpec)

/-- 'sojournlaw1.PackWrong', WHERE WHAT IT READS IS OF BULK AT MOST 1048576: true; the input reads as it did. -/
def packWrongUptoRow : OpenClaim := { program := "ytebinhelnhnbeaa", sum := "6c81f07f9493d38bd119e9df3b347d8e9f40d6935233ee70b2a8d4ba663574fc", func := "sojourn/sojournlaw1.PackWrong", spec := "packWrong", unfollowed := true, recurses := true, apart := false, narrowed := true }
def PackWrongUptoSaid : Prop := packWrongUptoRow.holds Try.pinned (OpenSpec.upto packWrongSpec)

/-- 'sojournlaw3.WantParts', WHERE WHAT IT READS IS OF BULK AT MOST 1048576: true; the input reads as it did. -/
def wantPartsUptoRow : OpenClaim := { program := "ytebinhelnhnbeaa", sum := "6c81f07f9493d38bd119e9df3b347d8e9f40d6935233ee70b2a8d4ba663574fc", func := "sojourn/sojournlaw3.WantParts", spec := "wantParts", unfollowed := true, recurses := true, apart := false, narrowed := true }
def WantPartsUptoSaid : Prop := wantPartsUptoRow.holds Try.pinned (OpenSpec.upto wantPartsSpec)

/-- 'sojournlaw3.WantAsks', WHERE WHAT IT READS IS OF BULK AT MOST 1048576: true; the input reads as it did. -/
def wantAsksUptoRow : OpenClaim := { program := "ytebinhelnhnbeaa", sum := "6c81f07f9493d38bd119e9df3b347d8e9f40d6935233ee70b2a8d4ba663574fc", func := "sojourn/sojournlaw3.WantAsks", spec := "wantAsks", unfollowed := true, recurses := true, apart := false, narrowed := true }
def WantAsksUptoSaid : Prop := wantAsksUptoRow.holds Try.pinned (OpenSpec.upto wantAsksSpec)

/-- 'sojournlaw3.WantBack', WHERE WHAT IT READS IS OF BULK AT MOST 1048576: true; the input reads as it did. -/
def wantBackUptoRow : OpenClaim := { program := "ytebinhelnhnbeaa", sum := "6c81f07f9493d38bd119e9df3b347d8e9f40d6935233ee70b2a8d4ba663574fc", func := "sojourn/sojournlaw3.WantBack", spec := "wantBack", unfollowed := true, recurses := true, apart := false, narrowed := true }
def WantBackUptoSaid : Prop := wantBackUptoRow.holds Try.pinned (OpenSpec.upto wantBackSpec)

/-- 'sojournlaw3.WantBounds', WHERE WHAT IT READS IS OF BULK AT MOST 1048576: true; the input reads as it did. -/
def wantBoundsUptoRow : OpenClaim := { program := "ytebinhelnhnbeaa", sum := "6c81f07f9493d38bd119e9df3b347d8e9f40d6935233ee70b2a8d4ba663574fc", func := "sojourn/sojournlaw3.WantBounds", spec := "wantBounds", unfollowed := true, recurses := true, apart := false, narrowed := true }
def WantBoundsUptoSaid : Prop := wantBoundsUptoRow.holds Try.pinned (OpenSpec.upto wantBoundsSpec)

/-- 'sojournlaw3.WantKinds', WHERE WHAT IT READS IS OF BULK AT MOST 1048576: true; the input reads as it did. -/
def wantKindsUptoRow : OpenClaim := { program := "ytebinhelnhnbeaa", sum := "6c81f07f9493d38bd119e9df3b347d8e9f40d6935233ee70b2a8d4ba663574fc", func := "sojourn/sojournlaw3.WantKinds", spec := "wantKinds", unfollowed := true, recurses := true, apart := false, narrowed := true }
def WantKindsUptoSaid : Prop := wantKindsUptoRow.holds Try.pinned (OpenSpec.upto wantKindsSpec)

/-- 'sojournlaw3.WantTurned', WHERE WHAT IT READS IS OF BULK AT MOST 1048576: true; the input reads as it did. -/
def wantTurnedUptoRow : OpenClaim := { program := "ytebinhelnhnbeaa", sum := "6c81f07f9493d38bd119e9df3b347d8e9f40d6935233ee70b2a8d4ba663574fc", func := "sojourn/sojournlaw3.WantTurned", spec := "wantTurned", unfollowed := true, recurses := true, apart := false, narrowed := true }
def WantTurnedUptoSaid : Prop := wantTurnedUptoRow.holds Try.pinned (OpenSpec.upto wantTurnedSpec)

end Rows
end Go.Proofs.Ytebinhelnhnbeaa
