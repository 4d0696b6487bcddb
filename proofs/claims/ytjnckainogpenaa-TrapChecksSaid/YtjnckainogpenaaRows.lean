/-
  No cell of these rows narrows 'for every input' (looked for: loops, veiled, ifaces, maps, wideKeys, modest, calm, conditions, laid).
  DERIVED. THE GIVEN ROWS OF THIS SEAT. 9 by the template 'for every input the law returns true; each argument reads behind the call as it read before'; 0 by the template 'total and deterministic' (their statements: YtjnckainogpenaaTotals.lean).
  GIVEN WITH THE SEED: the statements are not yours to turn. If you find one false, say at which input.
  Laid BY PROGRAM, IN A SANDBOX (cutbox-rows.mjs): the forced cells as the released guide's own fill.sh prints them over the translation 372394366783419c… (all of the seat's roots in one cut). By AI agents, Wed Nov 11 2026. No macro, syntax, notation, axiom, sorry.
-/
import Derived.Test.YtjnckainogpenaaChecked
import GoSem.Claim
import GoSem.ClaimJoined
import GoSem.ClaimMapViews
import Derived.JoinedTies
import Derived.KernelRfl
namespace Go.Proofs.Ytjnckainogpenaa
/- THE CELL 'sum', in the pinned program and in every row, IS THE sha256 OF THE DUMP (.gsa) THAT YtjnckainogpenaaProg.lean LOADS. Nothing in Lean hashes anything: it is a label: what it is worth is what the hold of that sum in a sandbox is worth. -/
noncomputable def Try.pinned : Pinned := { name := "ytjnckainogpenaa", sum := "372394366783419c0c9a896fa0ff26bd461594963d036ab7a37638419809366b", checked := Try.checked }
namespace Rows
def none {H : Type} : Left H := { results := [], args := [] }

/-- 'qanatlaw10.TrapPlays': WHATEVER THE INPUT: true; the input reads as it did. -/
def trapPlaysSpec : ChangeSpec := { name := "trapPlays", fn := fun _ => fun
  | [d] => { results := [.lit (.bool true)], args := [d] }
  | _ => none }
def trapPlaysRow : OpenClaim := { program := "ytjnckainogpenaa", sum := "372394366783419c0c9a896fa0ff26bd461594963d036ab7a37638419809366b", func := "qanat/qanatlaw10.TrapPlays", spec := "trapPlays", inPlace := ["internal/bytealg.IndexByteString", "internal/bytealg.IndexString"], unfollowed := true, recurses := true, named := ["internal/bytealg.MaxLen"], apart := false }
def TrapPlaysSaid : Prop := trapPlaysRow.holds Try.pinned (OpenSpec.ofChange trapPlaysSpec)

/-- ITS FALSE NEIGHBOUR: 'it returns false'. Refute it at one input. -/
def trapPlaysWrong : ChangeSpec := { name := "trapPlays", fn := fun _ => fun
  | [d] => { results := [.lit (.bool false)], args := [d] }
  | _ => none }
def TrapPlaysWrongFalsely : Prop := trapPlaysRow.holds Try.pinned (OpenSpec.ofChange trapPlaysWrong)

/-- 'qanatlaw10.TrapOnce': WHATEVER THE INPUT: true; the input reads as it did. -/
def trapOnceSpec : ChangeSpec := { name := "trapOnce", fn := fun _ => fun
  | [d] => { results := [.lit (.bool true)], args := [d] }
  | _ => none }
def trapOnceRow : OpenClaim := { program := "ytjnckainogpenaa", sum := "372394366783419c0c9a896fa0ff26bd461594963d036ab7a37638419809366b", func := "qanat/qanatlaw10.TrapOnce", spec := "trapOnce", inPlace := ["internal/bytealg.IndexByteString", "internal/bytealg.IndexString"], unfollowed := true, recurses := true, named := ["internal/bytealg.MaxLen"], apart := false }
def TrapOnceSaid : Prop := trapOnceRow.holds Try.pinned (OpenSpec.ofChange trapOnceSpec)

/-- ITS FALSE NEIGHBOUR: 'it returns false'. Refute it at one input. -/
def trapOnceWrong : ChangeSpec := { name := "trapOnce", fn := fun _ => fun
  | [d] => { results := [.lit (.bool false)], args := [d] }
  | _ => none }
def TrapOnceWrongFalsely : Prop := trapOnceRow.holds Try.pinned (OpenSpec.ofChange trapOnceWrong)

/-- 'qanatlaw10.TrapSteps': WHATEVER THE INPUT: true; the input reads as it did. -/
def trapStepsSpec : ChangeSpec := { name := "trapSteps", fn := fun _ => fun
  | [d1, d2, d3, d4] => { results := [.lit (.bool true)], args := [d1, d2, d3, d4] }
  | _ => none }
def trapStepsRow : OpenClaim := { program := "ytjnckainogpenaa", sum := "372394366783419c0c9a896fa0ff26bd461594963d036ab7a37638419809366b", func := "qanat/qanatlaw10.TrapSteps", spec := "trapSteps", inPlace := ["internal/bytealg.IndexByteString", "internal/bytealg.IndexString"], unfollowed := true, recurses := true, named := ["internal/bytealg.MaxLen"], apart := false }
def TrapStepsSaid : Prop := trapStepsRow.holds Try.pinned (OpenSpec.ofChange trapStepsSpec)

/-- ITS FALSE NEIGHBOUR: 'it returns false'. Refute it at one input. -/
def trapStepsWrong : ChangeSpec := { name := "trapSteps", fn := fun _ => fun
  | [d1, d2, d3, d4] => { results := [.lit (.bool false)], args := [d1, d2, d3, d4] }
  | _ => none }
def TrapStepsWrongFalsely : Prop := trapStepsRow.holds Try.pinned (OpenSpec.ofChange trapStepsWrong)

/-- 'qanatlaw10.TrapCatches': WHATEVER THE INPUT: true; the input reads as it did. -/
def trapCatchesSpec : ChangeSpec := { name := "trapCatches", fn := fun _ => fun
  | [d1, d2] => { results := [.lit (.bool true)], args := [d1, d2] }
  | _ => none }
def trapCatchesRow : OpenClaim := { program := "ytjnckainogpenaa", sum := "372394366783419c0c9a896fa0ff26bd461594963d036ab7a37638419809366b", func := "qanat/qanatlaw10.TrapCatches", spec := "trapCatches", inPlace := ["internal/bytealg.IndexByteString", "internal/bytealg.IndexString"], unfollowed := true, recurses := true, named := ["internal/bytealg.MaxLen"], apart := false }
def TrapCatchesSaid : Prop := trapCatchesRow.holds Try.pinned (OpenSpec.ofChange trapCatchesSpec)

/-- ITS FALSE NEIGHBOUR: 'it returns false'. Refute it at one input. -/
def trapCatchesWrong : ChangeSpec := { name := "trapCatches", fn := fun _ => fun
  | [d1, d2] => { results := [.lit (.bool false)], args := [d1, d2] }
  | _ => none }
def TrapCatchesWrongFalsely : Prop := trapCatchesRow.holds Try.pinned (OpenSpec.ofChange trapCatchesWrong)

/-- 'qanatlaw10.TrapInOrder': WHATEVER THE INPUT: true; the input reads as it did. -/
def trapInOrderSpec : ChangeSpec := { name := "trapInOrder", fn := fun _ => fun
  | [d1, d2] => { results := [.lit (.bool true)], args := [d1, d2] }
  | _ => none }
def trapInOrderRow : OpenClaim := { program := "ytjnckainogpenaa", sum := "372394366783419c0c9a896fa0ff26bd461594963d036ab7a37638419809366b", func := "qanat/qanatlaw10.TrapInOrder", spec := "trapInOrder", inPlace := ["internal/bytealg.IndexByteString", "internal/bytealg.IndexString"], unfollowed := true, recurses := true, named := ["internal/bytealg.MaxLen"], apart := false }
def TrapInOrderSaid : Prop := trapInOrderRow.holds Try.pinned (OpenSpec.ofChange trapInOrderSpec)

/-- ITS FALSE NEIGHBOUR: 'it returns false'. Refute it at one input. -/
def trapInOrderWrong : ChangeSpec := { name := "trapInOrder", fn := fun _ => fun
  | [d1, d2] => { results := [.lit (.bool false)], args := [d1, d2] }
  | _ => none }
def TrapInOrderWrongFalsely : Prop := trapInOrderRow.holds Try.pinned (OpenSpec.ofChange trapInOrderWrong)

/-- 'qanatlaw10.TrapDelays': WHATEVER THE INPUT: true; the input reads as it did. -/
def trapDelaysSpec : ChangeSpec := { name := "trapDelays", fn := fun _ => fun
  | [d1, d2] => { results := [.lit (.bool true)], args := [d1, d2] }
  | _ => none }
def trapDelaysRow : OpenClaim := { program := "ytjnckainogpenaa", sum := "372394366783419c0c9a896fa0ff26bd461594963d036ab7a37638419809366b", func := "qanat/qanatlaw10.TrapDelays", spec := "trapDelays", inPlace := ["internal/bytealg.IndexByteString", "internal/bytealg.IndexString"], unfollowed := true, recurses := true, named := ["internal/bytealg.MaxLen"], apart := false }
def TrapDelaysSaid : Prop := trapDelaysRow.holds Try.pinned (OpenSpec.ofChange trapDelaysSpec)

/-- ITS FALSE NEIGHBOUR: 'it returns false'. Refute it at one input. -/
def trapDelaysWrong : ChangeSpec := { name := "trapDelays", fn := fun _ => fun
  | [d1, d2] => { results := [.lit (.bool false)], args := [d1, d2] }
  | _ => none }
def TrapDelaysWrongFalsely : Prop := trapDelaysRow.holds Try.pinned (OpenSpec.ofChange trapDelaysWrong)

/-- 'qanatlaw10.TrapSignals': WHATEVER THE INPUT: true; the input reads as it did. -/
def trapSignalsSpec : ChangeSpec := { name := "trapSignals", fn := fun _ => fun
  | [d1, d2, d3, d4] => { results := [.lit (.bool true)], args := [d1, d2, d3, d4] }
  | _ => none }
def trapSignalsRow : OpenClaim := { program := "ytjnckainogpenaa", sum := "372394366783419c0c9a896fa0ff26bd461594963d036ab7a37638419809366b", func := "qanat/qanatlaw10.TrapSignals", spec := "trapSignals", inPlace := ["internal/bytealg.IndexByteString", "internal/bytealg.IndexString"], unfollowed := true, recurses := true, named := ["internal/bytealg.MaxLen"], apart := false }
def TrapSignalsSaid : Prop := trapSignalsRow.holds Try.pinned (OpenSpec.ofChange trapSignalsSpec)

/-- ITS FALSE NEIGHBOUR: 'it returns false'. Refute it at one input. -/
def trapSignalsWrong : ChangeSpec := { name := "trapSignals", fn := fun _ => fun
  | [d1, d2, d3, d4] => { results := [.lit (.bool false)], args := [d1, d2, d3, d4] }
  | _ => none }
def TrapSignalsWrongFalsely : Prop := trapSignalsRow.holds Try.pinned (OpenSpec.ofChange trapSignalsWrong)

/-- 'qanatlaw10.TrapRestores': WHATEVER THE INPUT: true; the input reads as it did. -/
def trapRestoresSpec : ChangeSpec := { name := "trapRestores", fn := fun _ => fun
  | [d1, d2] => { results := [.lit (.bool true)], args := [d1, d2] }
  | _ => none }
def trapRestoresRow : OpenClaim := { program := "ytjnckainogpenaa", sum := "372394366783419c0c9a896fa0ff26bd461594963d036ab7a37638419809366b", func := "qanat/qanatlaw10.TrapRestores", spec := "trapRestores", inPlace := ["internal/bytealg.IndexByteString", "internal/bytealg.IndexString"], unfollowed := true, recurses := true, named := ["internal/bytealg.MaxLen"], apart := false }
def TrapRestoresSaid : Prop := trapRestoresRow.holds Try.pinned (OpenSpec.ofChange trapRestoresSpec)

/-- ITS FALSE NEIGHBOUR: 'it returns false'. Refute it at one input. -/
def trapRestoresWrong : ChangeSpec := { name := "trapRestores", fn := fun _ => fun
  | [d1, d2] => { results := [.lit (.bool false)], args := [d1, d2] }
  | _ => none }
def TrapRestoresWrongFalsely : Prop := trapRestoresRow.holds Try.pinned (OpenSpec.ofChange trapRestoresWrong)

/-- 'qanatlaw10.TrapChecks': WHATEVER THE INPUT: true; the input reads as it did. -/
def trapChecksSpec : ChangeSpec := { name := "trapChecks", fn := fun _ => fun
  | [d1, d2, d3, d4, d5] => { results := [.lit (.bool true)], args := [d1, d2, d3, d4, d5] }
  | _ => none }
def trapChecksRow : OpenClaim := { program := "ytjnckainogpenaa", sum := "372394366783419c0c9a896fa0ff26bd461594963d036ab7a37638419809366b", func := "qanat/qanatlaw10.TrapChecks", spec := "trapChecks", inPlace := ["internal/bytealg.IndexByteString", "internal/bytealg.IndexString"], unfollowed := true, recurses := true, named := ["internal/bytealg.MaxLen"], apart := false }
def TrapChecksSaid : Prop := trapChecksRow.holds Try.pinned (OpenSpec.ofChange trapChecksSpec)

/-- ITS FALSE NEIGHBOUR: 'it returns false'. Refute it at one input. -/
def trapChecksWrong : ChangeSpec := { name := "trapChecks", fn := fun _ => fun
  | [d1, d2, d3, d4, d5] => { results := [.lit (.bool false)], args := [d1, d2, d3, d4, d5] }
  | _ => none }
def TrapChecksWrongFalsely : Prop := trapChecksRow.holds Try.pinned (OpenSpec.ofChange trapChecksWrong)

/- THE SECOND FORM. 'bulk': how many values and letters a reading holds, each counted each time it is reached (what is shared counts as often as it is met; a slice's spare places count too). A statement '..UptoSaid' is the law's where the arguments, and the package variables that the reading takes, are together of bulk at most 1048576: NARROWER than '..Said'. Prove '..Said' where nothing that the law and all that it calls make is longer than what came in: it says more and counts as full. Else prove '..UptoSaid'. A law counts once. -/
mutual
def uptoBulk {H : Type} : DataW H → Nat
  | .lit (.string bytes) => bytes.length + 1
  | .lit _ => 1
  | .nil => 1
  | .ptr d => uptoBulk d + 1
  | .slice elems spare => uptoBulkAll elems + uptoBulkAll spare + 1
  | .agg parts => uptoBulkAll parts + 1
  | .iface _ d => uptoBulk d + 1
  | .map entries => uptoBulkEntries entries + 1
  | .held _ => 1
def uptoBulkAll {H : Type} : List (DataW H) → Nat
  | [] => 0
  | d :: r => uptoBulk d + uptoBulkAll r
def uptoBulkEntries {H : Type} : List (Lit × DataW H) → Nat
  | [] => 0
  | x :: r => uptoBulkEntry x + uptoBulkEntries r
def uptoBulkEntry {H : Type} : Lit × DataW H → Nat
  | (.string bytes, d) => bytes.length + uptoBulk d + 1
  | (_, d) => uptoBulk d + 1
 end
def uptoSmall : (H : Type) → List (DataW H) → Bool := fun _ ds => decide (uptoBulkAll ds ≤ 1048576)
def OpenSpec.upto (s : _root_.Go.ChangeSpec) : _root_.Go.OpenSpec := { _root_.Go.OpenSpec.ofChange s with cond := some uptoSmall }

/-- 'qanatlaw10.TrapPlays', WHERE WHAT IT READS IS OF BULK AT MOST 1048576: true; the input reads as it did. -/
def trapPlaysUptoRow : OpenClaim := { program := "ytjnckainogpenaa", sum := "372394366783419c0c9a896fa0ff26bd461594963d036ab7a37638419809366b", func := "qanat/qanatlaw10.TrapPlays", spec := "trapPlays", inPlace := ["internal/bytealg.IndexByteString", "internal/bytealg.IndexString"], unfollowed := true, recurses := true, named := ["internal/bytealg.MaxLen"], apart := false, narrowed := true }
def TrapPlaysUptoSaid : Prop := trapPlaysUptoRow.holds Try.pinned (OpenSpec.upto trapPlaysSpec)

/-- 'qanatlaw10.TrapOnce', WHERE WHAT IT READS IS OF BULK AT MOST 1048576: true; the input reads as it did. -/
def trapOnceUptoRow : OpenClaim := { program := "ytjnckainogpenaa", sum := "372394366783419c0c9a896fa0ff26bd461594963d036ab7a37638419809366b", func := "qanat/qanatlaw10.TrapOnce", spec := "trapOnce", inPlace := ["internal/bytealg.IndexByteString", "internal/bytealg.IndexString"], unfollowed := true, recurses := true, named := ["internal/bytealg.MaxLen"], apart := false, narrowed := true }
def TrapOnceUptoSaid : Prop := trapOnceUptoRow.holds Try.pinned (OpenSpec.upto trapOnceSpec)

/-- 'qanatlaw10.TrapSteps', WHERE WHAT IT READS IS OF BULK AT MOST 1048576: true; the input reads as it did. -/
def trapStepsUptoRow : OpenClaim := { program := "ytjnckainogpenaa", sum := "372394366783419c0c9a896fa0ff26bd461594963d036ab7a37638419809366b", func := "qanat/qanatlaw10.TrapSteps", spec := "trapSteps", inPlace := ["internal/bytealg.IndexByteString", "internal/bytealg.IndexString"], unfollowed := true, recurses := true, named := ["internal/bytealg.MaxLen"], apart := false, narrowed := true }
def TrapStepsUptoSaid : Prop := trapStepsUptoRow.holds Try.pinned (OpenSpec.upto trapStepsSpec)

/-- 'qanatlaw10.TrapCatches', WHERE WHAT IT READS IS OF BULK AT MOST 1048576: true; the input reads as it did. -/
def trapCatchesUptoRow : OpenClaim := { program := "ytjnckainogpenaa", sum := "372394366783419c0c9a896fa0ff26bd461594963d036ab7a37638419809366b", func := "qanat/qanatlaw10.TrapCatches", spec := "trapCatches", inPlace := ["internal/bytealg.IndexByteString", "internal/bytealg.IndexString"], unfollowed := true, recurses := true, named := ["internal/bytealg.MaxLen"], apart := false, narrowed := true }
def TrapCatchesUptoSaid : Prop := trapCatchesUptoRow.holds Try.pinned (OpenSpec.upto trapCatchesSpec)

/-- 'qanatlaw10.TrapInOrder', WHERE WHAT IT READS IS OF BULK AT MOST 1048576: true; the input reads as it did. -/
def trapInOrderUptoRow : OpenClaim := { program := "ytjnckainogpenaa", sum := "372394366783419c0c9a896fa0ff26bd461594963d036ab7a37638419809366b", func := "qanat/qanatlaw10.TrapInOrder", spec := "trapInOrder", inPlace := ["internal/bytealg.IndexByteString", "internal/bytealg.IndexString"], unfollowed := true, recurses := true, named := ["internal/bytealg.MaxLen"], apart := false, narrowed := true }
def TrapInOrderUptoSaid : Prop := trapInOrderUptoRow.holds Try.pinned (OpenSpec.upto trapInOrderSpec)

/-- 'qanatlaw10.TrapDelays', WHERE WHAT IT READS IS OF BULK AT MOST 1048576: true; the input reads as it did. -/
def trapDelaysUptoRow : OpenClaim := { program := "ytjnckainogpenaa", sum := "372394366783419c0c9a896fa0ff26bd461594963d036ab7a37638419809366b", func := "qanat/qanatlaw10.TrapDelays", spec := "trapDelays", inPlace := ["internal/bytealg.IndexByteString", "internal/bytealg.IndexString"], unfollowed := true, recurses := true, named := ["internal/bytealg.MaxLen"], apart := false, narrowed := true }
def TrapDelaysUptoSaid : Prop := trapDelaysUptoRow.holds Try.pinned (OpenSpec.upto trapDelaysSpec)

/-- 'qanatlaw10.TrapSignals', WHERE WHAT IT READS IS OF BULK AT MOST 1048576: true; the input reads as it did. -/
def trapSignalsUptoRow : OpenClaim := { program := "ytjnckainogpenaa", sum := "372394366783419c0c9a896fa0ff26bd461594963d036ab7a37638419809366b", func := "qanat/qanatlaw10.TrapSignals", spec := "trapSignals", inPlace := ["internal/bytealg.IndexByteString", "internal/bytealg.IndexString"], unfollowed := true, recurses := true, named := ["internal/bytealg.MaxLen"], apart := false, narrowed := true }
def TrapSignalsUptoSaid : Prop := trapSignalsUptoRow.holds Try.pinned (OpenSpec.upto trapSignalsSpec)

/-- 'qanatlaw10.TrapRestores', WHERE WHAT IT READS IS OF BULK AT MOST 1048576: true; the input reads as it did. -/
def trapRestoresUptoRow : OpenClaim := { program := "ytjnckainogpenaa", sum := "372394366783419c0c9a896fa0ff26bd461594963d036ab7a37638419809366b", func := "qanat/qanatlaw10.TrapRestores", spec := "trapRestores", inPlace := ["internal/bytealg.IndexByteString", "internal/bytealg.IndexString"], unfollowed := true, recurses := true, named := ["internal/bytealg.MaxLen"], apart := false, narrowed := true }
def TrapRestoresUptoSaid : Prop := trapRestoresUptoRow.holds Try.pinned (OpenSpec.upto trapRestoresSpec)

/-- 'qanatlaw10.TrapChecks', WHERE WHAT IT READS IS OF BULK AT MOST 1048576: true; the input reads as it did. -/
def trapChecksUptoRow : OpenClaim := { program := "ytjnckainogpenaa", sum := "372394366783419c0c9a896fa0ff26bd461594963d036ab7a37638419809366b", func := "qanat/qanatlaw10.TrapChecks", spec := "trapChecks", inPlace := ["internal/bytealg.IndexByteString", "internal/bytealg.IndexString"], unfollowed := true, recurses := true, named := ["internal/bytealg.MaxLen"], apart := false, narrowed := true }
def TrapChecksUptoSaid : Prop := trapChecksUptoRow.holds Try.pinned (OpenSpec.upto trapChecksSpec)

end Rows
end Go.Proofs.Ytjnckainogpenaa
