/-
  No cell of these rows narrows 'for every input' (looked for: loops, veiled, ifaces, maps, wideKeys, modest, calm, conditions, laid).
  DERIVED. THE GIVEN ROWS OF THIS SEAT. 15 by the template 'for every input the law returns true; each argument reads behind the call as it read before'; 0 by the template 'total and deterministic' (their statements: YtplgodfhhlnojaaTotals.lean).
  GIVEN WITH THE SEED: the statements are not yours to turn. If you find one false, say at which input.
  Laid BY PROGRAM, IN A SANDBOX (cutbox-rows.mjs): the forced cells as the released guide's own fill.sh prints them over the translation 4b51ada21780b375… (all of the seat's roots in one cut). By AI agents, Wed Nov 11 2026. No macro, syntax, notation, axiom, sorry.
-/
import Derived.Test.YtplgodfhhlnojaaChecked
import GoSem.Claim
import GoSem.ClaimJoined
import GoSem.ClaimMapViews
import Derived.JoinedTies
import Derived.KernelRfl
namespace Go.Proofs.Ytplgodfhhlnojaa
/- THE CELL 'sum', in the pinned program and in every row, IS THE sha256 OF THE DUMP (.gsa) THAT YtplgodfhhlnojaaProg.lean LOADS. Nothing in Lean hashes anything: it is a label: what it is worth is what the hold of that sum in a sandbox is worth. -/
noncomputable def Try.pinned : Pinned := { name := "ytplgodfhhlnojaa", sum := "4b51ada21780b375c5fad7fbc70a691f252f4127de280da18e5920510c97bde6", checked := Try.checked }
namespace Rows
def none {H : Type} : Left H := { results := [], args := [] }

/-- 'sojournlaw15.SagaAsks': WHATEVER THE INPUT: true; the input reads as it did. -/
def sagaAsksSpec : ChangeSpec := { name := "sagaAsks", fn := fun _ => fun
  | [d1, d2, d3, d4] => { results := [.lit (.bool true)], args := [d1, d2, d3, d4] }
  | _ => none }
def sagaAsksRow : OpenClaim := { program := "ytplgodfhhlnojaa", sum := "4b51ada21780b375c5fad7fbc70a691f252f4127de280da18e5920510c97bde6", func := "sojourn/sojournlaw15.SagaAsks", spec := "sagaAsks", unfollowed := true, recurses := true, apart := false }
def SagaAsksSaid : Prop := sagaAsksRow.holds Try.pinned (OpenSpec.ofChange sagaAsksSpec)

/-- ITS FALSE NEIGHBOUR: 'it returns false'. Refute it at one input. -/
def sagaAsksWrong : ChangeSpec := { name := "sagaAsks", fn := fun _ => fun
  | [d1, d2, d3, d4] => { results := [.lit (.bool false)], args := [d1, d2, d3, d4] }
  | _ => none }
def SagaAsksWrongFalsely : Prop := sagaAsksRow.holds Try.pinned (OpenSpec.ofChange sagaAsksWrong)

/-- 'sojournlaw15.SagaEnds': WHATEVER THE INPUT: true; the input reads as it did. -/
def sagaEndsSpec : ChangeSpec := { name := "sagaEnds", fn := fun _ => fun
  | [d1, d2] => { results := [.lit (.bool true)], args := [d1, d2] }
  | _ => none }
def sagaEndsRow : OpenClaim := { program := "ytplgodfhhlnojaa", sum := "4b51ada21780b375c5fad7fbc70a691f252f4127de280da18e5920510c97bde6", func := "sojourn/sojournlaw15.SagaEnds", spec := "sagaEnds", unfollowed := true, recurses := true, apart := false }
def SagaEndsSaid : Prop := sagaEndsRow.holds Try.pinned (OpenSpec.ofChange sagaEndsSpec)

/-- ITS FALSE NEIGHBOUR: 'it returns false'. Refute it at one input. -/
def sagaEndsWrong : ChangeSpec := { name := "sagaEnds", fn := fun _ => fun
  | [d1, d2] => { results := [.lit (.bool false)], args := [d1, d2] }
  | _ => none }
def SagaEndsWrongFalsely : Prop := sagaEndsRow.holds Try.pinned (OpenSpec.ofChange sagaEndsWrong)

/-- 'sojournlaw15.SagaReasons': WHATEVER THE INPUT: true; the input reads as it did. -/
def sagaReasonsSpec : ChangeSpec := { name := "sagaReasons", fn := fun _ => fun
  | [d1, d2, d3] => { results := [.lit (.bool true)], args := [d1, d2, d3] }
  | _ => none }
def sagaReasonsRow : OpenClaim := { program := "ytplgodfhhlnojaa", sum := "4b51ada21780b375c5fad7fbc70a691f252f4127de280da18e5920510c97bde6", func := "sojourn/sojournlaw15.SagaReasons", spec := "sagaReasons", unfollowed := true, recurses := true, apart := false }
def SagaReasonsSaid : Prop := sagaReasonsRow.holds Try.pinned (OpenSpec.ofChange sagaReasonsSpec)

/-- ITS FALSE NEIGHBOUR: 'it returns false'. Refute it at one input. -/
def sagaReasonsWrong : ChangeSpec := { name := "sagaReasons", fn := fun _ => fun
  | [d1, d2, d3] => { results := [.lit (.bool false)], args := [d1, d2, d3] }
  | _ => none }
def SagaReasonsWrongFalsely : Prop := sagaReasonsRow.holds Try.pinned (OpenSpec.ofChange sagaReasonsWrong)

/-- 'sojournlaw15.SagaWhole': WHATEVER THE INPUT: true; the input reads as it did. -/
def sagaWholeSpec : ChangeSpec := { name := "sagaWhole", fn := fun _ => fun
  | [d1, d2] => { results := [.lit (.bool true)], args := [d1, d2] }
  | _ => none }
def sagaWholeRow : OpenClaim := { program := "ytplgodfhhlnojaa", sum := "4b51ada21780b375c5fad7fbc70a691f252f4127de280da18e5920510c97bde6", func := "sojourn/sojournlaw15.SagaWhole", spec := "sagaWhole", unfollowed := true, recurses := true, apart := false }
def SagaWholeSaid : Prop := sagaWholeRow.holds Try.pinned (OpenSpec.ofChange sagaWholeSpec)

/-- ITS FALSE NEIGHBOUR: 'it returns false'. Refute it at one input. -/
def sagaWholeWrong : ChangeSpec := { name := "sagaWhole", fn := fun _ => fun
  | [d1, d2] => { results := [.lit (.bool false)], args := [d1, d2] }
  | _ => none }
def SagaWholeWrongFalsely : Prop := sagaWholeRow.holds Try.pinned (OpenSpec.ofChange sagaWholeWrong)

/-- 'sojournlaw15.SagaUndone': WHATEVER THE INPUT: true; the input reads as it did. -/
def sagaUndoneSpec : ChangeSpec := { name := "sagaUndone", fn := fun _ => fun
  | [d1, d2, d3] => { results := [.lit (.bool true)], args := [d1, d2, d3] }
  | _ => none }
def sagaUndoneRow : OpenClaim := { program := "ytplgodfhhlnojaa", sum := "4b51ada21780b375c5fad7fbc70a691f252f4127de280da18e5920510c97bde6", func := "sojourn/sojournlaw15.SagaUndone", spec := "sagaUndone", unfollowed := true, recurses := true, apart := false }
def SagaUndoneSaid : Prop := sagaUndoneRow.holds Try.pinned (OpenSpec.ofChange sagaUndoneSpec)

/-- ITS FALSE NEIGHBOUR: 'it returns false'. Refute it at one input. -/
def sagaUndoneWrong : ChangeSpec := { name := "sagaUndone", fn := fun _ => fun
  | [d1, d2, d3] => { results := [.lit (.bool false)], args := [d1, d2, d3] }
  | _ => none }
def SagaUndoneWrongFalsely : Prop := sagaUndoneRow.holds Try.pinned (OpenSpec.ofChange sagaUndoneWrong)

/-- 'sojournlaw15.SagaTurned': WHATEVER THE INPUT: true; the input reads as it did. -/
def sagaTurnedSpec : ChangeSpec := { name := "sagaTurned", fn := fun _ => fun
  | [d1, d2, d3, d4] => { results := [.lit (.bool true)], args := [d1, d2, d3, d4] }
  | _ => none }
def sagaTurnedRow : OpenClaim := { program := "ytplgodfhhlnojaa", sum := "4b51ada21780b375c5fad7fbc70a691f252f4127de280da18e5920510c97bde6", func := "sojourn/sojournlaw15.SagaTurned", spec := "sagaTurned", unfollowed := true, recurses := true, apart := false }
def SagaTurnedSaid : Prop := sagaTurnedRow.holds Try.pinned (OpenSpec.ofChange sagaTurnedSpec)

/-- ITS FALSE NEIGHBOUR: 'it returns false'. Refute it at one input. -/
def sagaTurnedWrong : ChangeSpec := { name := "sagaTurned", fn := fun _ => fun
  | [d1, d2, d3, d4] => { results := [.lit (.bool false)], args := [d1, d2, d3, d4] }
  | _ => none }
def SagaTurnedWrongFalsely : Prop := sagaTurnedRow.holds Try.pinned (OpenSpec.ofChange sagaTurnedWrong)

/-- 'sojournlaw15.SagaBytes': WHATEVER THE INPUT: true; the input reads as it did. -/
def sagaBytesSpec : ChangeSpec := { name := "sagaBytes", fn := fun _ => fun
  | [d1, d2] => { results := [.lit (.bool true)], args := [d1, d2] }
  | _ => none }
def sagaBytesRow : OpenClaim := { program := "ytplgodfhhlnojaa", sum := "4b51ada21780b375c5fad7fbc70a691f252f4127de280da18e5920510c97bde6", func := "sojourn/sojournlaw15.SagaBytes", spec := "sagaBytes", unfollowed := true, recurses := true, apart := false }
def SagaBytesSaid : Prop := sagaBytesRow.holds Try.pinned (OpenSpec.ofChange sagaBytesSpec)

/-- ITS FALSE NEIGHBOUR: 'it returns false'. Refute it at one input. -/
def sagaBytesWrong : ChangeSpec := { name := "sagaBytes", fn := fun _ => fun
  | [d1, d2] => { results := [.lit (.bool false)], args := [d1, d2] }
  | _ => none }
def SagaBytesWrongFalsely : Prop := sagaBytesRow.holds Try.pinned (OpenSpec.ofChange sagaBytesWrong)

/-- 'sojournlaw20.AuditAsks': WHATEVER THE INPUT: true; the input reads as it did. -/
def auditAsksSpec : ChangeSpec := { name := "auditAsks", fn := fun _ => fun
  | [d1, d2, d3] => { results := [.lit (.bool true)], args := [d1, d2, d3] }
  | _ => none }
def auditAsksRow : OpenClaim := { program := "ytplgodfhhlnojaa", sum := "4b51ada21780b375c5fad7fbc70a691f252f4127de280da18e5920510c97bde6", func := "sojourn/sojournlaw20.AuditAsks", spec := "auditAsks", unfollowed := true, recurses := true, apart := false }
def AuditAsksSaid : Prop := auditAsksRow.holds Try.pinned (OpenSpec.ofChange auditAsksSpec)

/-- ITS FALSE NEIGHBOUR: 'it returns false'. Refute it at one input. -/
def auditAsksWrong : ChangeSpec := { name := "auditAsks", fn := fun _ => fun
  | [d1, d2, d3] => { results := [.lit (.bool false)], args := [d1, d2, d3] }
  | _ => none }
def AuditAsksWrongFalsely : Prop := auditAsksRow.holds Try.pinned (OpenSpec.ofChange auditAsksWrong)

/-- 'sojournlaw20.AuditUnits': WHATEVER THE INPUT: true; the input reads as it did. -/
def auditUnitsSpec : ChangeSpec := { name := "auditUnits", fn := fun _ => fun
  | [d1, d2] => { results := [.lit (.bool true)], args := [d1, d2] }
  | _ => none }
def auditUnitsRow : OpenClaim := { program := "ytplgodfhhlnojaa", sum := "4b51ada21780b375c5fad7fbc70a691f252f4127de280da18e5920510c97bde6", func := "sojourn/sojournlaw20.AuditUnits", spec := "auditUnits", unfollowed := true, recurses := true, apart := false }
def AuditUnitsSaid : Prop := auditUnitsRow.holds Try.pinned (OpenSpec.ofChange auditUnitsSpec)

/-- ITS FALSE NEIGHBOUR: 'it returns false'. Refute it at one input. -/
def auditUnitsWrong : ChangeSpec := { name := "auditUnits", fn := fun _ => fun
  | [d1, d2] => { results := [.lit (.bool false)], args := [d1, d2] }
  | _ => none }
def AuditUnitsWrongFalsely : Prop := auditUnitsRow.holds Try.pinned (OpenSpec.ofChange auditUnitsWrong)

/-- 'sojournlaw20.AuditTurned': WHATEVER THE INPUT: true; the input reads as it did. -/
def auditTurnedSpec : ChangeSpec := { name := "auditTurned", fn := fun _ => fun
  | [d1, d2] => { results := [.lit (.bool true)], args := [d1, d2] }
  | _ => none }
def auditTurnedRow : OpenClaim := { program := "ytplgodfhhlnojaa", sum := "4b51ada21780b375c5fad7fbc70a691f252f4127de280da18e5920510c97bde6", func := "sojourn/sojournlaw20.AuditTurned", spec := "auditTurned", unfollowed := true, recurses := true, apart := false }
def AuditTurnedSaid : Prop := auditTurnedRow.holds Try.pinned (OpenSpec.ofChange auditTurnedSpec)

/-- ITS FALSE NEIGHBOUR: 'it returns false'. Refute it at one input. -/
def auditTurnedWrong : ChangeSpec := { name := "auditTurned", fn := fun _ => fun
  | [d1, d2] => { results := [.lit (.bool false)], args := [d1, d2] }
  | _ => none }
def AuditTurnedWrongFalsely : Prop := auditTurnedRow.holds Try.pinned (OpenSpec.ofChange auditTurnedWrong)

/-- 'sojournlaw20.AuditPhases': WHATEVER THE INPUT: true; the input reads as it did. -/
def auditPhasesSpec : ChangeSpec := { name := "auditPhases", fn := fun _ => fun
  | [d1, d2] => { results := [.lit (.bool true)], args := [d1, d2] }
  | _ => none }
def auditPhasesRow : OpenClaim := { program := "ytplgodfhhlnojaa", sum := "4b51ada21780b375c5fad7fbc70a691f252f4127de280da18e5920510c97bde6", func := "sojourn/sojournlaw20.AuditPhases", spec := "auditPhases", unfollowed := true, recurses := true, apart := false }
def AuditPhasesSaid : Prop := auditPhasesRow.holds Try.pinned (OpenSpec.ofChange auditPhasesSpec)

/-- ITS FALSE NEIGHBOUR: 'it returns false'. Refute it at one input. -/
def auditPhasesWrong : ChangeSpec := { name := "auditPhases", fn := fun _ => fun
  | [d1, d2] => { results := [.lit (.bool false)], args := [d1, d2] }
  | _ => none }
def AuditPhasesWrongFalsely : Prop := auditPhasesRow.holds Try.pinned (OpenSpec.ofChange auditPhasesWrong)

/-- 'sojournlaw20.AuditOpen': WHATEVER THE INPUT: true; the input reads as it did. -/
def auditOpenSpec : ChangeSpec := { name := "auditOpen", fn := fun _ => fun
  | [d1, d2, d3] => { results := [.lit (.bool true)], args := [d1, d2, d3] }
  | _ => none }
def auditOpenRow : OpenClaim := { program := "ytplgodfhhlnojaa", sum := "4b51ada21780b375c5fad7fbc70a691f252f4127de280da18e5920510c97bde6", func := "sojourn/sojournlaw20.AuditOpen", spec := "auditOpen", unfollowed := true, recurses := true, apart := false }
def AuditOpenSaid : Prop := auditOpenRow.holds Try.pinned (OpenSpec.ofChange auditOpenSpec)

/-- ITS FALSE NEIGHBOUR: 'it returns false'. Refute it at one input. -/
def auditOpenWrong : ChangeSpec := { name := "auditOpen", fn := fun _ => fun
  | [d1, d2, d3] => { results := [.lit (.bool false)], args := [d1, d2, d3] }
  | _ => none }
def AuditOpenWrongFalsely : Prop := auditOpenRow.holds Try.pinned (OpenSpec.ofChange auditOpenWrong)

/-- 'sojournlaw17.RecordAsks': WHATEVER THE INPUT: true; the input reads as it did. -/
def recordAsksSpec : ChangeSpec := { name := "recordAsks", fn := fun _ => fun
  | [d1, d2, d3] => { results := [.lit (.bool true)], args := [d1, d2, d3] }
  | _ => none }
def recordAsksRow : OpenClaim := { program := "ytplgodfhhlnojaa", sum := "4b51ada21780b375c5fad7fbc70a691f252f4127de280da18e5920510c97bde6", func := "sojourn/sojournlaw17.RecordAsks", spec := "recordAsks", unfollowed := true, recurses := true, apart := false }
def RecordAsksSaid : Prop := recordAsksRow.holds Try.pinned (OpenSpec.ofChange recordAsksSpec)

/-- ITS FALSE NEIGHBOUR: 'it returns false'. Refute it at one input. -/
def recordAsksWrong : ChangeSpec := { name := "recordAsks", fn := fun _ => fun
  | [d1, d2, d3] => { results := [.lit (.bool false)], args := [d1, d2, d3] }
  | _ => none }
def RecordAsksWrongFalsely : Prop := recordAsksRow.holds Try.pinned (OpenSpec.ofChange recordAsksWrong)

/-- 'sojournlaw17.RecordBack': WHATEVER THE INPUT: true; the input reads as it did. -/
def recordBackSpec : ChangeSpec := { name := "recordBack", fn := fun _ => fun
  | [d1, d2, d3, d4] => { results := [.lit (.bool true)], args := [d1, d2, d3, d4] }
  | _ => none }
def recordBackRow : OpenClaim := { program := "ytplgodfhhlnojaa", sum := "4b51ada21780b375c5fad7fbc70a691f252f4127de280da18e5920510c97bde6", func := "sojourn/sojournlaw17.RecordBack", spec := "recordBack", unfollowed := true, recurses := true, apart := false }
def RecordBackSaid : Prop := recordBackRow.holds Try.pinned (OpenSpec.ofChange recordBackSpec)

/-- ITS FALSE NEIGHBOUR: 'it returns false'. Refute it at one input. -/
def recordBackWrong : ChangeSpec := { name := "recordBack", fn := fun _ => fun
  | [d1, d2, d3, d4] => { results := [.lit (.bool false)], args := [d1, d2, d3, d4] }
  | _ => none }
def RecordBackWrongFalsely : Prop := recordBackRow.holds Try.pinned (OpenSpec.ofChange recordBackWrong)

/-- 'sojournlaw17.RecordKinds': WHATEVER THE INPUT: true; the input reads as it did. -/
def recordKindsSpec : ChangeSpec := { name := "recordKinds", fn := fun _ => fun
  | [d1, d2, d3, d4] => { results := [.lit (.bool true)], args := [d1, d2, d3, d4] }
  | _ => none }
def recordKindsRow : OpenClaim := { program := "ytplgodfhhlnojaa", sum := "4b51ada21780b375c5fad7fbc70a691f252f4127de280da18e5920510c97bde6", func := "sojourn/sojournlaw17.RecordKinds", spec := "recordKinds", unfollowed := true, recurses := true, apart := false }
def RecordKindsSaid : Prop := recordKindsRow.holds Try.pinned (OpenSpec.ofChange recordKindsSpec)

/-- ITS FALSE NEIGHBOUR: 'it returns false'. Refute it at one input. -/
def recordKindsWrong : ChangeSpec := { name := "recordKinds", fn := fun _ => fun
  | [d1, d2, d3, d4] => { results := [.lit (.bool false)], args := [d1, d2, d3, d4] }
  | _ => none }
def RecordKindsWrongFalsely : Prop := recordKindsRow.holds Try.pinned (OpenSpec.ofChange recordKindsWrong)

/- THE SECOND FORM. 'bulk': how many values and letters a reading holds, each counted each time it is reached (what is shared counts as often as it is met; a slice's spare places count too). A statement '..UptoSaid' is the law's where the arguments, and the package variables that the reading takes, are together of bulk at most 1048576: NARROWER than '..Said'. Prove '..Said' where nothing that the law and all that it calls make is longer than what came in: it says more and counts as full. Else prove '..UptoSaid'. A law counts once. -/
mutual
def uptoBulk {H : Type} : DataW H → Nat
  | .lit (.string bytes) => bytes.length + 1
  | .lit _ => 1
  | .nil => 1
  | .ptr d => uptoBulk d + 1
  | .slice elems spare => uptoBulkAll elems + uptoBulkAll spare + 1
  | .agg parts => uptoBulkAll parts + 1
  | .iface _ d => uptoBulk d + 1
  | .map entries => uptoBulkEntries entries + 1
  | .held _ => 1
def uptoBulkAll {H : Type} : List (DataW H) → Nat
  | [] => 0
  | d :: r => uptoBulk d + uptoBulkAll r
def uptoBulkEntries {H : Type} : List (Lit × DataW H) → Nat
  | [] => 0
  | x :: r => uptoBulkEntry x + uptoBulkEntries r
def uptoBulkEntry {H : Type} : Lit × DataW H → Nat
  | (.string bytes, d) => bytes.length + uptoBulk d + 1
  | (_, d) => uptoBulk d + 1
 end
def uptoSmall : (H : Type) → List (DataW H) → Bool := fun _ ds => decide (uptoBulkAll ds ≤ 1048576)
def OpenSpec.upto (s : _root_.Go.ChangeSpec) : _root_.Go.OpenSpec := { _root_.Go.OpenSpec.ofChange s with cond := some uptoSmall }

/-- 'sojournlaw15.SagaAsks', WHERE WHAT IT READS IS OF BULK AT MOST 1048576: true; the input reads as it did. -/
def sagaAsksUptoRow : OpenClaim := { program := "ytplgodfhhlnojaa", sum := "4b51ada21780b375c5fad7fbc70a691f252f4127de280da18e5920510c97bde6", func := "sojourn/sojournlaw15.SagaAsks", spec := "sagaAsks", unfollowed := true, recurses := true, apart := false, narrowed := true }
def SagaAsksUptoSaid : Prop := sagaAsksUptoRow.holds Try.pinned (OpenSpec.upto sagaAsksSpec)

/-- 'sojournlaw15.SagaEnds', WHERE WHAT IT READS IS OF BULK AT MOST 1048576: true; the input reads as it did. -/
def sagaEndsUptoRow : OpenClaim := { program := "ytplgodfhhlnojaa", sum := "4b51ada21780b375c5fad7fbc70a691f252f4127de280da18e5920510c97bde6", func := "sojourn/sojournlaw15.SagaEnds", spec := "sagaEnds", unfollowed := true, recurses := true, apart := false, narrowed := true }
def SagaEndsUptoSaid : Prop := sagaEndsUptoRow.holds Try.pinned (OpenSpec.upto sagaEndsSpec)

/-- 'sojournlaw15.SagaReasons', WHERE WHAT IT READS IS OF BULK AT MOST 1048576: true; the input reads as it did. -/
def sagaReasonsUptoRow : OpenClaim := { program := "ytplgodfhhlnojaa", sum := "4b51ada21780b375c5fad7fbc70a691f252f4127de280da18e5920510c97bde6", func := "sojourn/sojournlaw15.SagaReasons", spec := "sagaReasons", unfollowed := true, recurses := true, apart := false, narrowed := true }
def SagaReasonsUptoSaid : Prop := sagaReasonsUptoRow.holds Try.pinned (OpenSpec.upto sagaReasonsSpec)

/-- 'sojournlaw15.SagaWhole', WHERE WHAT IT READS IS OF BULK AT MOST 1048576: true; the input reads as it did. -/
def sagaWholeUptoRow : OpenClaim := { program := "ytplgodfhhlnojaa", sum := "4b51ada21780b375c5fad7fbc70a691f252f4127de280da18e5920510c97bde6", func := "sojourn/sojournlaw15.SagaWhole", spec := "sagaWhole", unfollowed := true, recurses := true, apart := false, narrowed := true }
def SagaWholeUptoSaid : Prop := sagaWholeUptoRow.holds Try.pinned (OpenSpec.upto sagaWholeSpec)

/-- 'sojournlaw15.SagaUndone', WHERE WHAT IT READS IS OF BULK AT MOST 1048576: true; the input reads as it did. -/
def sagaUndoneUptoRow : OpenClaim := { program := "ytplgodfhhlnojaa", sum := "4b51ada21780b375c5fad7fbc70a691f252f4127de280da18e5920510c97bde6", func := "sojourn/sojournlaw15.SagaUndone", spec := "sagaUndone", unfollowed := true, recurses := true, apart := false, narrowed := true }
def SagaUndoneUptoSaid : Prop := sagaUndoneUptoRow.holds Try.pinned (OpenSpec.upto sagaUndoneSpec)

/-- 'sojournlaw15.SagaTurned', WHERE WHAT IT READS IS OF BULK AT MOST 1048576: true; the input reads as it did. -/
def sagaTurnedUptoRow : OpenClaim := { program := "ytplgodfhhlnojaa", sum := "4b51ada21780b375c5fad7fbc70a691f252f4127de280da18e5920510c97bde6", func := "sojourn/sojournlaw15.SagaTurned", spec := "sagaTurned", unfollowed := true, recurses := true, apart := false, narrowed := true }
def SagaTurnedUptoSaid : Prop := sagaTurnedUptoRow.holds Try.pinned (OpenSpec.upto sagaTurnedSpec)

/-- 'sojournlaw15.SagaBytes', WHERE WHAT IT READS IS OF BULK AT MOST 1048576: true; the input reads as it did. -/
def sagaBytesUptoRow : OpenClaim := { program := "ytplgodfhhlnojaa", sum := "4b51ada21780b375c5fad7fbc70a691f252f4127de280da18e5920510c97bde6", func := "sojourn/sojournlaw15.SagaBytes", spec := "sagaBytes", unfollowed := true, recurses := true, apart := false, narrowed := true }
def SagaBytesUptoSaid : Prop := sagaBytesUptoRow.holds Try.pinned (OpenSpec.upto sagaBytesSpec)

/-- 'sojournlaw20.AuditAsks', WHERE WHAT IT READS IS OF BULK AT MOST 1048576: true; the input reads as it did. -/
def auditAsksUptoRow : OpenClaim := { program := "ytplgodfhhlnojaa", sum := "4b51ada21780b375c5fad7fbc70a691f252f4127de280da18e5920510c97bde6", func := "sojourn/sojournlaw20.AuditAsks", spec := "auditAsks", unfollowed := true, recurses := true, apart := false, narrowed := true }
def AuditAsksUptoSaid : Prop := auditAsksUptoRow.holds Try.pinned (OpenSpec.upto auditAsksSpec)

/-- 'sojournlaw20.AuditUnits', WHERE WHAT IT READS IS OF BULK AT MOST 1048576: true; the input reads as it did. -/
def auditUnitsUptoRow : OpenClaim := { program := "ytplgodfhhlnojaa", sum := "4b51ada21780b375c5fad7fbc70a691f252f4127de280da18e5920510c97bde6", func := "sojourn/sojournlaw20.AuditUnits", spec := "auditUnits", unfollowed := true, recurses := true, apart := false, narrowed := true }
def AuditUnitsUptoSaid : Prop := auditUnitsUptoRow.holds Try.pinned (OpenSpec.upto auditUnitsSpec)

/-- 'sojournlaw20.AuditTurned', WHERE WHAT IT READS IS OF BULK AT MOST 1048576: true; the input reads as it did. -/
def auditTurnedUptoRow : OpenClaim := { program := "ytplgodfhhlnojaa", sum := "4b51ada21780b375c5fad7fbc70a691f252f4127de280da18e5920510c97bde6", func := "sojourn/sojournlaw20.AuditTurned", spec := "auditTurned", unfollowed := true, recurses := true, apart := false, narrowed := true }
def AuditTurnedUptoSaid : Prop := auditTurnedUptoRow.holds Try.pinned (OpenSpec.upto auditTurnedSpec)

/-- 'sojournlaw20.AuditPhases', WHERE WHAT IT READS IS OF BULK AT MOST 1048576: true; the input reads as it did. -/
def auditPhasesUptoRow : OpenClaim := { program := "ytplgodfhhlnojaa", sum := "4b51ada21780b375c5fad7fbc70a691f252f4127de280da18e5920510c97bde6", func := "sojourn/sojournlaw20.AuditPhases", spec := "auditPhases", unfollowed := true, recurses := true, apart := false, narrowed := true }
def AuditPhasesUptoSaid : Prop := auditPhasesUptoRow.holds Try.pinned (OpenSpec.upto auditPhasesSpec)

/-- 'sojournlaw20.AuditOpen', WHERE WHAT IT READS IS OF BULK AT MOST 1048576: true; the input reads as it did. -/
def auditOpenUptoRow : OpenClaim := { program := "ytplgodfhhlnojaa", sum := "4b51ada21780b375c5fad7fbc70a691f252f4127de280da18e5920510c97bde6", func := "sojourn/sojournlaw20.AuditOpen", spec := "auditOpen", unfollowed := true, recurses := true, apart := false, narrowed := true }
def AuditOpenUptoSaid : Prop := auditOpenUptoRow.holds Try.pinned (OpenSpec.upto auditOpenSpec)

/-- 'sojournlaw17.RecordAsks', WHERE WHAT IT READS IS OF BULK AT MOST 1048576: true; the input reads as it did. -/
def recordAsksUptoRow : OpenClaim := { program := "ytplgodfhhlnojaa", sum := "4b51ada21780b375c5fad7fbc70a691f252f4127de280da18e5920510c97bde6", func := "sojourn/sojournlaw17.RecordAsks", spec := "recordAsks", unfollowed := true, recurses := true, apart := false, narrowed := true }
def RecordAsksUptoSaid : Prop := recordAsksUptoRow.holds Try.pinned (OpenSpec.upto recordAsksSpec)

/-- 'sojournlaw17.RecordBack', WHERE WHAT IT READS IS OF BULK AT MOST 1048576: true; the input reads as it did. -/
def recordBackUptoRow : OpenClaim := { program := "ytplgodfhhlnojaa", sum := "4b51ada21780b375c5fad7fbc70a691f252f4127de280da18e5920510c97bde6", func := "sojourn/sojournlaw17.RecordBack", spec := "recordBack", unfollowed := true, recurses := true, apart := false, narrowed := true }
def RecordBackUptoSaid : Prop := recordBackUptoRow.holds Try.pinned (OpenSpec.upto recordBackSpec)

/-- 'sojournlaw17.RecordKinds', WHERE WHAT IT READS IS OF BULK AT MOST 1048576: true; the input reads as it did. -/
def recordKindsUptoRow : OpenClaim := { program := "ytplgodfhhlnojaa", sum := "4b51ada21780b375c5fad7fbc70a691f252f4127de280da18e5920510c97bde6", func := "sojourn/sojournlaw17.RecordKinds", spec := "recordKinds", unfollowed := true, recurses := true, apart := false, narrowed := true }
def RecordKindsUptoSaid : Prop := recordKindsUptoRow.holds Try.pinned (OpenSpec.upto recordKindsSpec)

end Rows
end Go.Proofs.Ytplgodfhhlnojaa
