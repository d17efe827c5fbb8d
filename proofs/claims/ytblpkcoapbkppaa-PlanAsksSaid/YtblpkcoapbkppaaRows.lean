/-
  No cell of these rows narrows 'for every input' (looked for: loops, veiled, ifaces, maps, wideKeys, modest, calm, conditions, laid).
  DERIVED. THE GIVEN ROWS OF THIS SEAT. 12 by the template 'for every input the law returns true; each argument reads behind the call as it read before'; 0 by the template 'total and deterministic' (their statements: YtblpkcoapbkppaaTotals.lean).
  GIVEN WITH THE SEED: the statements are not yours to turn. If you find one false, say at which input.
  Laid BY PROGRAM, IN A SANDBOX (cutbox-rows.mjs): the forced cells as the released guide's own fill.sh prints them over the translation 008bc55545a3fb14… (all of the seat's roots in one cut). By AI agents, Wed Nov 11 2026. No macro, syntax, notation, axiom, sorry.
-/
import Derived.Test.YtblpkcoapbkppaaChecked
import GoSem.Claim
import GoSem.ClaimJoined
import GoSem.ClaimMapViews
import Derived.JoinedTies
import Derived.KernelRfl
namespace Go.Proofs.Ytblpkcoapbkppaa
/- THE CELL 'sum', in the pinned program and in every row, IS THE sha256 OF THE DUMP (.gsa) THAT YtblpkcoapbkppaaProg.lean LOADS. Nothing in Lean hashes anything: it is a label: what it is worth is what the hold of that sum in a sandbox is worth. -/
noncomputable def Try.pinned : Pinned := { name := "ytblpkcoapbkppaa", sum := "008bc55545a3fb14230d74442b03c9bbc6bdbc1175e17ac2091e3dc48520baf2", checked := Try.checked }
namespace Rows
def none {H : Type} : Left H := { results := [], args := [] }

/-- 'sojournlaw2.CashShares': WHATEVER THE INPUT: true; the input reads as it did. -/
def cashSharesSpec : ChangeSpec := { name := "cashShares", fn := fun _ => fun
  | [d1, d2] => { results := [.lit (.bool true)], args := [d1, d2] }
  | _ => none }
def cashSharesRow : OpenClaim := { program := "ytblpkcoapbkppaa", sum := "008bc55545a3fb14230d74442b03c9bbc6bdbc1175e17ac2091e3dc48520baf2", func := "sojourn/sojournlaw2.CashShares", spec := "cashShares", unfollowed := true, recurses := true, apart := false }
def CashSharesSaid : Prop := cashSharesRow.holds Try.pinned (OpenSpec.ofChange cashSharesSpec)

/-- ITS FALSE NEIGHBOUR: 'it returns false'. Refute it at one input. -/
def cashSharesWrong : ChangeSpec := { name := "cashShares", fn := fun _ => fun
  | [d1, d2] => { results := [.lit (.bool false)], args := [d1, d2] }
  | _ => none }
def CashSharesWrongFalsely : Prop := cashSharesRow.holds Try.pinned (OpenSpec.ofChange cashSharesWrong)

/-- 'sojournlaw2.CashWhole': WHATEVER THE INPUT: true; the input reads as it did. -/
def cashWholeSpec : ChangeSpec := { name := "cashWhole", fn := fun _ => fun
  | [d1, d2] => { results := [.lit (.bool true)], args := [d1, d2] }
  | _ => none }
def cashWholeRow : OpenClaim := { program := "ytblpkcoapbkppaa", sum := "008bc55545a3fb14230d74442b03c9bbc6bdbc1175e17ac2091e3dc48520baf2", func := "sojourn/sojournlaw2.CashWhole", spec := "cashWhole", unfollowed := true, recurses := true, apart := false }
def CashWholeSaid : Prop := cashWholeRow.holds Try.pinned (OpenSpec.ofChange cashWholeSpec)

/-- ITS FALSE NEIGHBOUR: 'it returns false'. Refute it at one input. -/
def cashWholeWrong : ChangeSpec := { name := "cashWhole", fn := fun _ => fun
  | [d1, d2] => { results := [.lit (.bool false)], args := [d1, d2] }
  | _ => none }
def CashWholeWrongFalsely : Prop := cashWholeRow.holds Try.pinned (OpenSpec.ofChange cashWholeWrong)

/-- 'sojournlaw2.CashOne': WHATEVER THE INPUT: true; the input reads as it did. -/
def cashOneSpec : ChangeSpec := { name := "cashOne", fn := fun _ => fun
  | [d1, d2, d3] => { results := [.lit (.bool true)], args := [d1, d2, d3] }
  | _ => none }
def cashOneRow : OpenClaim := { program := "ytblpkcoapbkppaa", sum := "008bc55545a3fb14230d74442b03c9bbc6bdbc1175e17ac2091e3dc48520baf2", func := "sojourn/sojournlaw2.CashOne", spec := "cashOne", unfollowed := true, recurses := true, apart := false }
def CashOneSaid : Prop := cashOneRow.holds Try.pinned (OpenSpec.ofChange cashOneSpec)

/-- ITS FALSE NEIGHBOUR: 'it returns false'. Refute it at one input. -/
def cashOneWrong : ChangeSpec := { name := "cashOne", fn := fun _ => fun
  | [d1, d2, d3] => { results := [.lit (.bool false)], args := [d1, d2, d3] }
  | _ => none }
def CashOneWrongFalsely : Prop := cashOneRow.holds Try.pinned (OpenSpec.ofChange cashOneWrong)

/-- 'sojournlaw2.CashEnds': WHATEVER THE INPUT: true; the input reads as it did. -/
def cashEndsSpec : ChangeSpec := { name := "cashEnds", fn := fun _ => fun
  | [d1, d2] => { results := [.lit (.bool true)], args := [d1, d2] }
  | _ => none }
def cashEndsRow : OpenClaim := { program := "ytblpkcoapbkppaa", sum := "008bc55545a3fb14230d74442b03c9bbc6bdbc1175e17ac2091e3dc48520baf2", func := "sojourn/sojournlaw2.CashEnds", spec := "cashEnds", unfollowed := true, recurses := true, apart := false }
def CashEndsSaid : Prop := cashEndsRow.holds Try.pinned (OpenSpec.ofChange cashEndsSpec)

/-- ITS FALSE NEIGHBOUR: 'it returns false'. Refute it at one input. -/
def cashEndsWrong : ChangeSpec := { name := "cashEnds", fn := fun _ => fun
  | [d1, d2] => { results := [.lit (.bool false)], args := [d1, d2] }
  | _ => none }
def CashEndsWrongFalsely : Prop := cashEndsRow.holds Try.pinned (OpenSpec.ofChange cashEndsWrong)

/-- 'sojournlaw2.CashAsks': WHATEVER THE INPUT: true; the input reads as it did. -/
def cashAsksSpec : ChangeSpec := { name := "cashAsks", fn := fun _ => fun
  | [d1, d2, d3] => { results := [.lit (.bool true)], args := [d1, d2, d3] }
  | _ => none }
def cashAsksRow : OpenClaim := { program := "ytblpkcoapbkppaa", sum := "008bc55545a3fb14230d74442b03c9bbc6bdbc1175e17ac2091e3dc48520baf2", func := "sojourn/sojournlaw2.CashAsks", spec := "cashAsks", unfollowed := true, recurses := true, apart := false }
def CashAsksSaid : Prop := cashAsksRow.holds Try.pinned (OpenSpec.ofChange cashAsksSpec)

/-- ITS FALSE NEIGHBOUR: 'it returns false'. Refute it at one input. -/
def cashAsksWrong : ChangeSpec := { name := "cashAsks", fn := fun _ => fun
  | [d1, d2, d3] => { results := [.lit (.bool false)], args := [d1, d2, d3] }
  | _ => none }
def CashAsksWrongFalsely : Prop := cashAsksRow.holds Try.pinned (OpenSpec.ofChange cashAsksWrong)

/-- 'sojournlaw2.CashTurns': WHATEVER THE INPUT: true; the input reads as it did. -/
def cashTurnsSpec : ChangeSpec := { name := "cashTurns", fn := fun _ => fun
  | [d1, d2, d3] => { results := [.lit (.bool true)], args := [d1, d2, d3] }
  | _ => none }
def cashTurnsRow : OpenClaim := { program := "ytblpkcoapbkppaa", sum := "008bc55545a3fb14230d74442b03c9bbc6bdbc1175e17ac2091e3dc48520baf2", func := "sojourn/sojournlaw2.CashTurns", spec := "cashTurns", unfollowed := true, recurses := true, apart := false }
def CashTurnsSaid : Prop := cashTurnsRow.holds Try.pinned (OpenSpec.ofChange cashTurnsSpec)

/-- ITS FALSE NEIGHBOUR: 'it returns false'. Refute it at one input. -/
def cashTurnsWrong : ChangeSpec := { name := "cashTurns", fn := fun _ => fun
  | [d1, d2, d3] => { results := [.lit (.bool false)], args := [d1, d2, d3] }
  | _ => none }
def CashTurnsWrongFalsely : Prop := cashTurnsRow.holds Try.pinned (OpenSpec.ofChange cashTurnsWrong)

/-- 'sojournlaw14.PlanAsks': WHATEVER THE INPUT: true; the input reads as it did. -/
def planAsksSpec : ChangeSpec := { name := "planAsks", fn := fun _ => fun
  | [d] => { results := [.lit (.bool true)], args := [d] }
  | _ => none }
def planAsksRow : OpenClaim := { program := "ytblpkcoapbkppaa", sum := "008bc55545a3fb14230d74442b03c9bbc6bdbc1175e17ac2091e3dc48520baf2", func := "sojourn/sojournlaw14.PlanAsks", spec := "planAsks", unfollowed := true, recurses := true, apart := false }
def PlanAsksSaid : Prop := planAsksRow.holds Try.pinned (OpenSpec.ofChange planAsksSpec)

/-- ITS FALSE NEIGHBOUR: 'it returns false'. Refute it at one input. -/
def planAsksWrong : ChangeSpec := { name := "planAsks", fn := fun _ => fun
  | [d] => { results := [.lit (.bool false)], args := [d] }
  | _ => none }
def PlanAsksWrongFalsely : Prop := planAsksRow.holds Try.pinned (OpenSpec.ofChange planAsksWrong)

/-- 'sojournlaw14.PlanBack': WHATEVER THE INPUT: true; the input reads as it did. -/
def planBackSpec : ChangeSpec := { name := "planBack", fn := fun _ => fun
  | [d] => { results := [.lit (.bool true)], args := [d] }
  | _ => none }
def planBackRow : OpenClaim := { program := "ytblpkcoapbkppaa", sum := "008bc55545a3fb14230d74442b03c9bbc6bdbc1175e17ac2091e3dc48520baf2", func := "sojourn/sojournlaw14.PlanBack", spec := "planBack", unfollowed := true, recurses := true, apart := false }
def PlanBackSaid : Prop := planBackRow.holds Try.pinned (OpenSpec.ofChange planBackSpec)

/-- ITS FALSE NEIGHBOUR: 'it returns false'. Refute it at one input. -/
def planBackWrong : ChangeSpec := { name := "planBack", fn := fun _ => fun
  | [d] => { results := [.lit (.bool false)], args := [d] }
  | _ => none }
def PlanBackWrongFalsely : Prop := planBackRow.holds Try.pinned (OpenSpec.ofChange planBackWrong)

/-- 'sojournlaw14.PlanHolds': WHATEVER THE INPUT: true; the input reads as it did. -/
def planHoldsSpec : ChangeSpec := { name := "planHolds", fn := fun _ => fun
  | [d1, d2, d3, d4, d5] => { results := [.lit (.bool true)], args := [d1, d2, d3, d4, d5] }
  | _ => none }
def planHoldsRow : OpenClaim := { program := "ytblpkcoapbkppaa", sum := "008bc55545a3fb14230d74442b03c9bbc6bdbc1175e17ac2091e3dc48520baf2", func := "sojourn/sojournlaw14.PlanHolds", spec := "planHolds", unfollowed := true, recurses := true, apart := false }
def PlanHoldsSaid : Prop := planHoldsRow.holds Try.pinned (OpenSpec.ofChange planHoldsSpec)

/-- ITS FALSE NEIGHBOUR: 'it returns false'. Refute it at one input. -/
def planHoldsWrong : ChangeSpec := { name := "planHolds", fn := fun _ => fun
  | [d1, d2, d3, d4, d5] => { results := [.lit (.bool false)], args := [d1, d2, d3, d4, d5] }
  | _ => none }
def PlanHoldsWrongFalsely : Prop := planHoldsRow.holds Try.pinned (OpenSpec.ofChange planHoldsWrong)

/-- 'sojournlaw21.BoundAsks': WHATEVER THE INPUT: true; the input reads as it did. -/
def boundAsksSpec : ChangeSpec := { name := "boundAsks", fn := fun _ => fun
  | [d1, d2, d3] => { results := [.lit (.bool true)], args := [d1, d2, d3] }
  | _ => none }
def boundAsksRow : OpenClaim := { program := "ytblpkcoapbkppaa", sum := "008bc55545a3fb14230d74442b03c9bbc6bdbc1175e17ac2091e3dc48520baf2", func := "sojourn/sojournlaw21.BoundAsks", spec := "boundAsks", unfollowed := true, recurses := true, apart := false }
def BoundAsksSaid : Prop := boundAsksRow.holds Try.pinned (OpenSpec.ofChange boundAsksSpec)

/-- ITS FALSE NEIGHBOUR: 'it returns false'. Refute it at one input. -/
def boundAsksWrong : ChangeSpec := { name := "boundAsks", fn := fun _ => fun
  | [d1, d2, d3] => { results := [.lit (.bool false)], args := [d1, d2, d3] }
  | _ => none }
def BoundAsksWrongFalsely : Prop := boundAsksRow.holds Try.pinned (OpenSpec.ofChange boundAsksWrong)

/-- 'sojournlaw21.BoundParts': WHATEVER THE INPUT: true; the input reads as it did. -/
def boundPartsSpec : ChangeSpec := { name := "boundParts", fn := fun _ => fun
  | [d1, d2, d3] => { results := [.lit (.bool true)], args := [d1, d2, d3] }
  | _ => none }
def boundPartsRow : OpenClaim := { program := "ytblpkcoapbkppaa", sum := "008bc55545a3fb14230d74442b03c9bbc6bdbc1175e17ac2091e3dc48520baf2", func := "sojourn/sojournlaw21.BoundParts", spec := "boundParts", unfollowed := true, recurses := true, apart := false }
def BoundPartsSaid : Prop := boundPartsRow.holds Try.pinned (OpenSpec.ofChange boundPartsSpec)

/-- ITS FALSE NEIGHBOUR: 'it returns false'. Refute it at one input. -/
def boundPartsWrong : ChangeSpec := { name := "boundParts", fn := fun _ => fun
  | [d1, d2, d3] => { results := [.lit (.bool false)], args := [d1, d2, d3] }
  | _ => none }
def BoundPartsWrongFalsely : Prop := boundPartsRow.holds Try.pinned (OpenSpec.ofChange boundPartsWrong)

/-- 'sojournlaw21.BoundSteps': WHATEVER THE INPUT: true; the input reads as it did. -/
def boundStepsSpec : ChangeSpec := { name := "boundSteps", fn := fun _ => fun
  | [d1, d2, d3] => { results := [.lit (.bool true)], args := [d1, d2, d3] }
  | _ => none }
def boundStepsRow : OpenClaim := { program := "ytblpkcoapbkppaa", sum := "008bc55545a3fb14230d74442b03c9bbc6bdbc1175e17ac2091e3dc48520baf2", func := "sojourn/sojournlaw21.BoundSteps", spec := "boundSteps", unfollowed := true, recurses := true, apart := false }
def BoundStepsSaid : Prop := boundStepsRow.holds Try.pinned (OpenSpec.ofChange boundStepsSpec)

/-- ITS FALSE NEIGHBOUR: 'it returns false'. Refute it at one input. -/
def boundStepsWrong : ChangeSpec := { name := "boundSteps", fn := fun _ => fun
  | [d1, d2, d3] => { results := [.lit (.bool false)], args := [d1, d2, d3] }
  | _ => none }
def BoundStepsWrongFalsely : Prop := boundStepsRow.holds Try.pinned (OpenSpec.ofChange boundStepsWrong)

/- THE SECOND FORM. 'bulk': how many values and letters a reading holds, each counted each time it is reached (what is shared counts as often as it is met; a slice's spare places count too). A statement '..UptoSaid' is the law's where the arguments, and the package variables that the reading takes, are together of bulk at most 1048576: NARROWER than '..Said'. Prove '..Said' where nothing that the law and all that it calls make is longer than what came in: it says more and counts as full. Else prove '..UptoSaid'. A law counts once. -/
mutual
def uptoBulk {H : Type} : DataW H → Nat
  | .lit (.string bytes) => bytes.length + 1
  | .lit _ => 1
  | .nil => 1
  | .ptr d => uptoBulk d + 1
  | .slice elems spare => uptoBulkAll elems + uptoBulkAll spare + 1
  | .agg parts => uptoBulkAll parts + 1
  | .iface _ d => uptoBulk d + 1
  | .map entries => uptoBulkEntries entries + 1
  | .held _ => 1
def uptoBulkAll {H : Type} : List (DataW H) → Nat
  | [] => 0
  | d :: r => uptoBulk d + uptoBulkAll r
def uptoBulkEntries {H : Type} : List (Lit × DataW H) → Nat
  | [] => 0
  | x :: r => uptoBulkEntry x + uptoBulkEntries r
def uptoBulkEntry {H : Type} : Lit × DataW H → Nat
  | (.string bytes, d) => bytes.length + uptoBulk d + 1
  | (_, d) => uptoBulk d + 1
 end
def uptoSmall : (H : Type) → List (DataW H) → Bool := fun _ ds => decide (uptoBulkAll ds ≤ 1048576)
def OpenSpec.upto (s : _root_.Go.ChangeSpec) : _root_.Go.OpenSpec := { _root_.Go.OpenSpec.ofChange s with cond := some uptoSmall }

/-- 'sojournlaw2.CashShares', WHERE WHAT IT READS IS OF BULK AT MOST 1048576: true; the input reads as it did. -/
def cashSharesUptoRow : OpenClaim := { program := "ytblpkcoapbkppaa", sum := "008bc55545a3fb14230d74442b03c9bbc6bdbc1175e17ac2091e3dc48520baf2", func := "sojourn/sojournlaw2.CashShares", spec := "cashShares", unfollowed := true, recurses := true, apart := false, narrowed := true }
def CashSharesUptoSaid : Prop := cashSharesUptoRow.holds Try.pinned (OpenSpec.upto cashSharesSpec)

/-- 'sojournlaw2.CashWhole', WHERE WHAT IT READS IS OF BULK AT MOST 1048576: true; the input reads as it did. -/
def cashWholeUptoRow : OpenClaim := { program := "ytblpkcoapbkppaa", sum := "008bc55545a3fb14230d74442b03c9bbc6bdbc1175e17ac2091e3dc48520baf2", func := "sojourn/sojournlaw2.CashWhole", spec := "cashWhole", unfollowed := true, recurses := true, apart := false, narrowed := true }
def CashWholeUptoSaid : Prop := cashWholeUptoRow.holds Try.pinned (OpenSpec.upto cashWholeSpec)

/-- 'sojournlaw2.CashOne', WHERE WHAT IT READS IS OF BULK AT MOST 1048576: true; the input reads as it did. -/
def cashOneUptoRow : OpenClaim := { program := "ytblpkcoapbkppaa", sum := "008bc55545a3fb14230d74442b03c9bbc6bdbc1175e17ac2091e3dc48520baf2", func := "sojourn/sojournlaw2.CashOne", spec := "cashOne", unfollowed := true, recurses := true, apart := false, narrowed := true }
def CashOneUptoSaid : Prop := cashOneUptoRow.holds Try.pinned (OpenSpec.upto cashOneSpec)

/-- 'sojournlaw2.CashEnds', WHERE WHAT IT READS IS OF BULK AT MOST 1048576: true; the input reads as it did. -/
def cashEndsUptoRow : OpenClaim := { program := "ytblpkcoapbkppaa", sum := "008bc55545a3fb14230d74442b03c9bbc6bdbc1175e17ac2091e3dc48520baf2", func := "sojourn/sojournlaw2.CashEnds", spec := "cashEnds", unfollowed := true, recurses := true, apart := false, narrowed := true }
def CashEndsUptoSaid : Prop := cashEndsUptoRow.holds Try.pinned (OpenSpec.upto cashEndsSpec)

/-- 'sojournlaw2.CashAsks', WHERE WHAT IT READS IS OF BULK AT MOST 1048576: true; the input reads as it did. -/
def cashAsksUptoRow : OpenClaim := { program := "ytblpkcoapbkppaa", sum := "008bc55545a3fb14230d74442b03c9bbc6bdbc1175e17ac2091e3dc48520baf2", func := "sojourn/sojournlaw2.CashAsks", spec := "cashAsks", unfollowed := true, recurses := true, apart := false, narrowed := true }
def CashAsksUptoSaid : Prop := cashAsksUptoRow.holds Try.pinned (OpenSpec.upto cashAsksSpec)

/-- 'sojournlaw2.CashTurns', WHERE WHAT IT READS IS OF BULK AT MOST 1048576: true; the input reads as it did. -/
def cashTurnsUptoRow : OpenClaim := { program := "ytblpkcoapbkppaa", sum := "008bc55545a3fb14230d74442b03c9bbc6bdbc1175e17ac2091e3dc48520baf2", func := "sojourn/sojournlaw2.CashTurns", spec := "cashTurns", unfollowed := true, recurses := true, apart := false, narrowed := true }
def CashTurnsUptoSaid : Prop := cashTurnsUptoRow.holds Try.pinned (OpenSpec.upto cashTurnsSpec)

/-- 'sojournlaw14.PlanAsks', WHERE WHAT IT READS IS OF BULK AT MOST 1048576: true; the input reads as it did. -/
def planAsksUptoRow : OpenClaim := { program := "ytblpkcoapbkppaa", sum := "008bc55545a3fb14230d74442b03c9bbc6bdbc1175e17ac2091e3dc48520baf2", func := "sojourn/sojournlaw14.PlanAsks", spec := "planAsks", unfollowed := true, recurses := true, apart := false, narrowed := true }
def PlanAsksUptoSaid : Prop := planAsksUptoRow.holds Try.pinned (OpenSpec.upto planAsksSpec)

/-- 'sojournlaw14.PlanBack', WHERE WHAT IT READS IS OF BULK AT MOST 1048576: true; the input reads as it did. -/
def planBackUptoRow : OpenClaim := { program := "ytblpkcoapbkppaa", sum := "008bc55545a3fb14230d74442b03c9bbc6bdbc1175e17ac2091e3dc48520baf2", func := "sojourn/sojournlaw14.PlanBack", spec := "planBack", unfollowed := true, recurses := true, apart := false, narrowed := true }
def PlanBackUptoSaid : Prop := planBackUptoRow.holds Try.pinned (OpenSpec.upto planBackSpec)

/-- 'sojournlaw14.PlanHolds', WHERE WHAT IT READS IS OF BULK AT MOST 1048576: true; the input reads as it did. -/
def planHoldsUptoRow : OpenClaim := { program := "ytblpkcoapbkppaa", sum := "008bc55545a3fb14230d74442b03c9bbc6bdbc1175e17ac2091e3dc48520baf2", func := "sojourn/sojournlaw14.PlanHolds", spec := "planHolds", unfollowed := true, recurses := true, apart := false, narrowed := true }
def PlanHoldsUptoSaid : Prop := planHoldsUptoRow.holds Try.pinned (OpenSpec.upto planHoldsSpec)

/-- 'sojournlaw21.BoundAsks', WHERE WHAT IT READS IS OF BULK AT MOST 1048576: true; the input reads as it did. -/
def boundAsksUptoRow : OpenClaim := { program := "ytblpkcoapbkppaa", sum := "008bc55545a3fb14230d74442b03c9bbc6bdbc1175e17ac2091e3dc48520baf2", func := "sojourn/sojournlaw21.BoundAsks", spec := "boundAsks", unfollowed := true, recurses := true, apart := false, narrowed := true }
def BoundAsksUptoSaid : Prop := boundAsksUptoRow.holds Try.pinned (OpenSpec.upto boundAsksSpec)

/-- 'sojournlaw21.BoundParts', WHERE WHAT IT READS IS OF BULK AT MOST 1048576: true; the input reads as it did. -/
def boundPartsUptoRow : OpenClaim := { program := "ytblpkcoapbkppaa", sum := "008bc55545a3fb14230d74442b03c9bbc6bdbc1175e17ac2091e3dc48520baf2", func := "sojourn/sojournlaw21.BoundParts", spec := "boundParts", unfollowed := true, recurses := true, apart := false, narrowed := true }
def BoundPartsUptoSaid : Prop := boundPartsUptoRow.holds Try.pinned (OpenSpec.upto boundPartsSpec)

/-- 'sojournlaw21.BoundSteps', WHERE WHAT IT READS IS OF BULK AT MOST 1048576: true; the input reads as it did. -/
def boundStepsUptoRow : OpenClaim := { program := "ytblpkcoapbkppaa", sum := "008bc55545a3fb14230d74442b03c9bbc6bdbc1175e17ac2091e3dc48520baf2", func := "sojourn/sojournlaw21.BoundSteps", spec := "boundSteps", unfollowed := true, recurses := true, apart := false, narrowed := true }
def BoundStepsUptoSaid : Prop := boundStepsUptoRow.holds Try.pinned (OpenSpec.upto boundStepsSpec)

end Rows
end Go.Proofs.Ytblpkcoapbkppaa
