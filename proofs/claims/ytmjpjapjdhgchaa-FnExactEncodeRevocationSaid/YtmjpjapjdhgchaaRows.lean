/-
  No cell of these rows narrows 'for every input' (looked for: loops, veiled, ifaces, maps, wideKeys, modest, calm, conditions, laid).
  DERIVED. THE GIVEN ROWS OF THIS SEAT. 12 by the template 'for every input the law returns true; each argument reads behind the call as it read before'; 0 by the template 'total and deterministic' (their statements: YtmjpjapjdhgchaaTotals.lean).
  GIVEN WITH THE SEED: the statements are not yours to turn. If you find one false, say at which input.
  Laid BY PROGRAM, IN A SANDBOX (cutbox-rows.mjs): the forced cells as the released guide's own fill.sh prints them over the translation 2a75ccd933da5398… (all of the seat's roots in one cut). By AI agents, Wed Nov 11 2026. No macro, syntax, notation, axiom, sorry.
-/
import Derived.Test.YtmjpjapjdhgchaaChecked
import GoSem.Claim
import GoSem.ClaimJoined
import GoSem.ClaimMapViews
import Derived.JoinedTies
import Derived.KernelRfl
namespace Go.Proofs.Ytmjpjapjdhgchaa
/- THE CELL 'sum', in the pinned program and in every row, IS THE sha256 OF THE DUMP (.gsa) THAT YtmjpjapjdhgchaaProg.lean LOADS. Nothing in Lean hashes anything: it is a label: what it is worth is what the hold of that sum in a sandbox is worth. -/
noncomputable def Try.pinned : Pinned := { name := "ytmjpjapjdhgchaa", sum := "2a75ccd933da5398d6ba0373861928732f9716423d9306d6f1c6987183b31fb1", checked := Try.checked }
namespace Rows
def none {H : Type} : Left H := { results := [], args := [] }

/-- 'laws.FnExactValidRevocation': WHATEVER THE INPUT: true; the input reads as it did. -/
def fnExactValidRevocationSpec : ChangeSpec := { name := "fnExactValidRevocation", fn := fun _ => fun
  | [d] => { results := [.lit (.bool true)], args := [d] }
  | _ => none }
def fnExactValidRevocationRow : OpenClaim := { program := "ytmjpjapjdhgchaa", sum := "2a75ccd933da5398d6ba0373861928732f9716423d9306d6f1c6987183b31fb1", func := "loop.example/g00505/laws.FnExactValidRevocation", spec := "fnExactValidRevocation", apart := false }
def FnExactValidRevocationSaid : Prop := fnExactValidRevocationRow.holds Try.pinned (OpenSpec.ofChange fnExactValidRevocationSpec)

/-- ITS FALSE NEIGHBOUR: 'it returns false'. Refute it at one input. -/
def fnExactValidRevocationWrong : ChangeSpec := { name := "fnExactValidRevocation", fn := fun _ => fun
  | [d] => { results := [.lit (.bool false)], args := [d] }
  | _ => none }
def FnExactValidRevocationWrongFalsely : Prop := fnExactValidRevocationRow.holds Try.pinned (OpenSpec.ofChange fnExactValidRevocationWrong)

/-- 'laws.FnExactValidReservation': WHATEVER THE INPUT: true; the input reads as it did. -/
def fnExactValidReservationSpec : ChangeSpec := { name := "fnExactValidReservation", fn := fun _ => fun
  | [d] => { results := [.lit (.bool true)], args := [d] }
  | _ => none }
def fnExactValidReservationRow : OpenClaim := { program := "ytmjpjapjdhgchaa", sum := "2a75ccd933da5398d6ba0373861928732f9716423d9306d6f1c6987183b31fb1", func := "loop.example/g00505/laws.FnExactValidReservation", spec := "fnExactValidReservation", apart := false }
def FnExactValidReservationSaid : Prop := fnExactValidReservationRow.holds Try.pinned (OpenSpec.ofChange fnExactValidReservationSpec)

/-- ITS FALSE NEIGHBOUR: 'it returns false'. Refute it at one input. -/
def fnExactValidReservationWrong : ChangeSpec := { name := "fnExactValidReservation", fn := fun _ => fun
  | [d] => { results := [.lit (.bool false)], args := [d] }
  | _ => none }
def FnExactValidReservationWrongFalsely : Prop := fnExactValidReservationRow.holds Try.pinned (OpenSpec.ofChange fnExactValidReservationWrong)

/-- 'laws.FnExactReverseKind': WHATEVER THE INPUT: true; the input reads as it did. -/
def fnExactReverseKindSpec : ChangeSpec := { name := "fnExactReverseKind", fn := fun _ => fun
  | [d] => { results := [.lit (.bool true)], args := [d] }
  | _ => none }
def fnExactReverseKindRow : OpenClaim := { program := "ytmjpjapjdhgchaa", sum := "2a75ccd933da5398d6ba0373861928732f9716423d9306d6f1c6987183b31fb1", func := "loop.example/g00505/laws.FnExactReverseKind", spec := "fnExactReverseKind", apart := false }
def FnExactReverseKindSaid : Prop := fnExactReverseKindRow.holds Try.pinned (OpenSpec.ofChange fnExactReverseKindSpec)

/-- ITS FALSE NEIGHBOUR: 'it returns false'. Refute it at one input. -/
def fnExactReverseKindWrong : ChangeSpec := { name := "fnExactReverseKind", fn := fun _ => fun
  | [d] => { results := [.lit (.bool false)], args := [d] }
  | _ => none }
def FnExactReverseKindWrongFalsely : Prop := fnExactReverseKindRow.holds Try.pinned (OpenSpec.ofChange fnExactReverseKindWrong)

/-- 'laws.FnExactEqualSteps': WHATEVER THE INPUT: true; the input reads as it did. -/
def fnExactEqualStepsSpec : ChangeSpec := { name := "fnExactEqualSteps", fn := fun _ => fun
  | [d1, d2] => { results := [.lit (.bool true)], args := [d1, d2] }
  | _ => none }
def fnExactEqualStepsRow : OpenClaim := { program := "ytmjpjapjdhgchaa", sum := "2a75ccd933da5398d6ba0373861928732f9716423d9306d6f1c6987183b31fb1", func := "loop.example/g00505/laws.FnExactEqualSteps", spec := "fnExactEqualSteps", apart := false }
def FnExactEqualStepsSaid : Prop := fnExactEqualStepsRow.holds Try.pinned (OpenSpec.ofChange fnExactEqualStepsSpec)

/-- ITS FALSE NEIGHBOUR: 'it returns false'. Refute it at one input. -/
def fnExactEqualStepsWrong : ChangeSpec := { name := "fnExactEqualSteps", fn := fun _ => fun
  | [d1, d2] => { results := [.lit (.bool false)], args := [d1, d2] }
  | _ => none }
def FnExactEqualStepsWrongFalsely : Prop := fnExactEqualStepsRow.holds Try.pinned (OpenSpec.ofChange fnExactEqualStepsWrong)

/-- 'laws.FnExactReservationRate': WHATEVER THE INPUT: true; the input reads as it did. -/
def fnExactReservationRateSpec : ChangeSpec := { name := "fnExactReservationRate", fn := fun _ => fun
  | [d1, d2, d3, d4, d5] => { results := [.lit (.bool true)], args := [d1, d2, d3, d4, d5] }
  | _ => none }
def fnExactReservationRateRow : OpenClaim := { program := "ytmjpjapjdhgchaa", sum := "2a75ccd933da5398d6ba0373861928732f9716423d9306d6f1c6987183b31fb1", func := "loop.example/g00505/laws.FnExactReservationRate", spec := "fnExactReservationRate", apart := false }
def FnExactReservationRateSaid : Prop := fnExactReservationRateRow.holds Try.pinned (OpenSpec.ofChange fnExactReservationRateSpec)

/-- ITS FALSE NEIGHBOUR: 'it returns false'. Refute it at one input. -/
def fnExactReservationRateWrong : ChangeSpec := { name := "fnExactReservationRate", fn := fun _ => fun
  | [d1, d2, d3, d4, d5] => { results := [.lit (.bool false)], args := [d1, d2, d3, d4, d5] }
  | _ => none }
def FnExactReservationRateWrongFalsely : Prop := fnExactReservationRateRow.holds Try.pinned (OpenSpec.ofChange fnExactReservationRateWrong)

/-- 'laws.FnExactEqualReservations': WHATEVER THE INPUT: true; the input reads as it did. -/
def fnExactEqualReservationsSpec : ChangeSpec := { name := "fnExactEqualReservations", fn := fun _ => fun
  | [d1, d2] => { results := [.lit (.bool true)], args := [d1, d2] }
  | _ => none }
def fnExactEqualReservationsRow : OpenClaim := { program := "ytmjpjapjdhgchaa", sum := "2a75ccd933da5398d6ba0373861928732f9716423d9306d6f1c6987183b31fb1", func := "loop.example/g00505/laws.FnExactEqualReservations", spec := "fnExactEqualReservations", apart := false }
def FnExactEqualReservationsSaid : Prop := fnExactEqualReservationsRow.holds Try.pinned (OpenSpec.ofChange fnExactEqualReservationsSpec)

/-- ITS FALSE NEIGHBOUR: 'it returns false'. Refute it at one input. -/
def fnExactEqualReservationsWrong : ChangeSpec := { name := "fnExactEqualReservations", fn := fun _ => fun
  | [d1, d2] => { results := [.lit (.bool false)], args := [d1, d2] }
  | _ => none }
def FnExactEqualReservationsWrongFalsely : Prop := fnExactEqualReservationsRow.holds Try.pinned (OpenSpec.ofChange fnExactEqualReservationsWrong)

/-- 'laws.FnExactReservedRate': WHATEVER THE INPUT: true; the input reads as it did. -/
def fnExactReservedRateSpec : ChangeSpec := { name := "fnExactReservedRate", fn := fun _ => fun
  | [d1, d2, d3, d4] => { results := [.lit (.bool true)], args := [d1, d2, d3, d4] }
  | _ => none }
def fnExactReservedRateRow : OpenClaim := { program := "ytmjpjapjdhgchaa", sum := "2a75ccd933da5398d6ba0373861928732f9716423d9306d6f1c6987183b31fb1", func := "loop.example/g00505/laws.FnExactReservedRate", spec := "fnExactReservedRate", apart := false }
def FnExactReservedRateSaid : Prop := fnExactReservedRateRow.holds Try.pinned (OpenSpec.ofChange fnExactReservedRateSpec)

/-- ITS FALSE NEIGHBOUR: 'it returns false'. Refute it at one input. -/
def fnExactReservedRateWrong : ChangeSpec := { name := "fnExactReservedRate", fn := fun _ => fun
  | [d1, d2, d3, d4] => { results := [.lit (.bool false)], args := [d1, d2, d3, d4] }
  | _ => none }
def FnExactReservedRateWrongFalsely : Prop := fnExactReservedRateRow.holds Try.pinned (OpenSpec.ofChange fnExactReservedRateWrong)

/-- 'laws.FnExactReverseSteps': WHATEVER THE INPUT: true; the input reads as it did. -/
def fnExactReverseStepsSpec : ChangeSpec := { name := "fnExactReverseSteps", fn := fun _ => fun
  | [d] => { results := [.lit (.bool true)], args := [d] }
  | _ => none }
def fnExactReverseStepsRow : OpenClaim := { program := "ytmjpjapjdhgchaa", sum := "2a75ccd933da5398d6ba0373861928732f9716423d9306d6f1c6987183b31fb1", func := "loop.example/g00505/laws.FnExactReverseSteps", spec := "fnExactReverseSteps", apart := false }
def FnExactReverseStepsSaid : Prop := fnExactReverseStepsRow.holds Try.pinned (OpenSpec.ofChange fnExactReverseStepsSpec)

/-- ITS FALSE NEIGHBOUR: 'it returns false'. Refute it at one input. -/
def fnExactReverseStepsWrong : ChangeSpec := { name := "fnExactReverseSteps", fn := fun _ => fun
  | [d] => { results := [.lit (.bool false)], args := [d] }
  | _ => none }
def FnExactReverseStepsWrongFalsely : Prop := fnExactReverseStepsRow.holds Try.pinned (OpenSpec.ofChange fnExactReverseStepsWrong)

/-- 'laws.FnExactFreeRate': WHATEVER THE INPUT: true; the input reads as it did. -/
def fnExactFreeRateSpec : ChangeSpec := { name := "fnExactFreeRate", fn := fun _ => fun
  | [d1, d2, d3, d4, d5] => { results := [.lit (.bool true)], args := [d1, d2, d3, d4, d5] }
  | _ => none }
def fnExactFreeRateRow : OpenClaim := { program := "ytmjpjapjdhgchaa", sum := "2a75ccd933da5398d6ba0373861928732f9716423d9306d6f1c6987183b31fb1", func := "loop.example/g00505/laws.FnExactFreeRate", spec := "fnExactFreeRate", apart := false }
def FnExactFreeRateSaid : Prop := fnExactFreeRateRow.holds Try.pinned (OpenSpec.ofChange fnExactFreeRateSpec)

/-- ITS FALSE NEIGHBOUR: 'it returns false'. Refute it at one input. -/
def fnExactFreeRateWrong : ChangeSpec := { name := "fnExactFreeRate", fn := fun _ => fun
  | [d1, d2, d3, d4, d5] => { results := [.lit (.bool false)], args := [d1, d2, d3, d4, d5] }
  | _ => none }
def FnExactFreeRateWrongFalsely : Prop := fnExactFreeRateRow.holds Try.pinned (OpenSpec.ofChange fnExactFreeRateWrong)

/-- 'laws.FnExactActiveRevocations': WHATEVER THE INPUT: true; the input reads as it did. -/
def fnExactActiveRevocationsSpec : ChangeSpec := { name := "fnExactActiveRevocations", fn := fun _ => fun
  | [d1, d2] => { results := [.lit (.bool true)], args := [d1, d2] }
  | _ => none }
def fnExactActiveRevocationsRow : OpenClaim := { program := "ytmjpjapjdhgchaa", sum := "2a75ccd933da5398d6ba0373861928732f9716423d9306d6f1c6987183b31fb1", func := "loop.example/g00505/laws.FnExactActiveRevocations", spec := "fnExactActiveRevocations", apart := false }
def FnExactActiveRevocationsSaid : Prop := fnExactActiveRevocationsRow.holds Try.pinned (OpenSpec.ofChange fnExactActiveRevocationsSpec)

/-- ITS FALSE NEIGHBOUR: 'it returns false'. Refute it at one input. -/
def fnExactActiveRevocationsWrong : ChangeSpec := { name := "fnExactActiveRevocations", fn := fun _ => fun
  | [d1, d2] => { results := [.lit (.bool false)], args := [d1, d2] }
  | _ => none }
def FnExactActiveRevocationsWrongFalsely : Prop := fnExactActiveRevocationsRow.holds Try.pinned (OpenSpec.ofChange fnExactActiveRevocationsWrong)

/-- 'laws.FnExactEncodeRevocation': WHATEVER THE INPUT: true; the input reads as it did. -/
def fnExactEncodeRevocationSpec : ChangeSpec := { name := "fnExactEncodeRevocation", fn := fun _ => fun
  | [d] => { results := [.lit (.bool true)], args := [d] }
  | _ => none }
def fnExactEncodeRevocationRow : OpenClaim := { program := "ytmjpjapjdhgchaa", sum := "2a75ccd933da5398d6ba0373861928732f9716423d9306d6f1c6987183b31fb1", func := "loop.example/g00505/laws.FnExactEncodeRevocation", spec := "fnExactEncodeRevocation", apart := false }
def FnExactEncodeRevocationSaid : Prop := fnExactEncodeRevocationRow.holds Try.pinned (OpenSpec.ofChange fnExactEncodeRevocationSpec)

/-- ITS FALSE NEIGHBOUR: 'it returns false'. Refute it at one input. -/
def fnExactEncodeRevocationWrong : ChangeSpec := { name := "fnExactEncodeRevocation", fn := fun _ => fun
  | [d] => { results := [.lit (.bool false)], args := [d] }
  | _ => none }
def FnExactEncodeRevocationWrongFalsely : Prop := fnExactEncodeRevocationRow.holds Try.pinned (OpenSpec.ofChange fnExactEncodeRevocationWrong)

/-- 'laws.FnExactActiveReservations': WHATEVER THE INPUT: true; the input reads as it did. -/
def fnExactActiveReservationsSpec : ChangeSpec := { name := "fnExactActiveReservations", fn := fun _ => fun
  | [d1, d2] => { results := [.lit (.bool true)], args := [d1, d2] }
  | _ => none }
def fnExactActiveReservationsRow : OpenClaim := { program := "ytmjpjapjdhgchaa", sum := "2a75ccd933da5398d6ba0373861928732f9716423d9306d6f1c6987183b31fb1", func := "loop.example/g00505/laws.FnExactActiveReservations", spec := "fnExactActiveReservations", apart := false }
def FnExactActiveReservationsSaid : Prop := fnExactActiveReservationsRow.holds Try.pinned (OpenSpec.ofChange fnExactActiveReservationsSpec)

/-- ITS FALSE NEIGHBOUR: 'it returns false'. Refute it at one input. -/
def fnExactActiveReservationsWrong : ChangeSpec := { name := "fnExactActiveReservations", fn := fun _ => fun
  | [d1, d2] => { results := [.lit (.bool false)], args := [d1, d2] }
  | _ => none }
def FnExactActiveReservationsWrongFalsely : Prop := fnExactActiveReservationsRow.holds Try.pinned (OpenSpec.ofChange fnExactActiveReservationsWrong)

/- THE SECOND FORM. 'bulk': how many values and letters a reading holds, each counted each time it is reached (what is shared counts as often as it is met; a slice's spare places count too). A statement '..UptoSaid' is the law's where the arguments, and the package variables that the reading takes, are together of bulk at most 1048576: NARROWER than '..Said'. Prove '..Said' where nothing that the law and all that it calls make is longer than what came in: it says more and counts as full. Else prove '..UptoSaid'. A law counts once. -/
mutual
def uptoBulk {H : Type} : DataW H → Nat
  | .lit (.string bytes) => bytes.length + 1
  | .lit _ => 1
  | .nil => 1
  | .ptr d => uptoBulk d + 1
  | .slice elems spare => uptoBulkAll elems + uptoBulkAll spare + 1
  | .agg parts => uptoBulkAll parts + 1
  | .iface _ d => uptoBulk d + 1
  | .map entries => uptoBulkEntries entries + 1
  | .held _ => 1
def uptoBulkAll {H : Type} : List (DataW H) → Nat
  | [] => 0
  | d :: r => uptoBulk d + uptoBulkAll r
def uptoBulkEntries {H : Type} : List (Lit × DataW H) → Nat
  | [] => 0
  | x :: r => uptoBulkEntry x + uptoBulkEntries r
def uptoBulkEntry {H : Type} : Lit × DataW H → Nat
  | (.string bytes, d) => bytes.length + uptoBulk d + 1
  | (_, d) => uptoBulk d + 1
 end
def uptoSmall : (H : Type) → List (DataW H) → Bool := fun _ ds => decide (uptoBulkAll ds ≤ 1048576)
def OpenSpec.upto (s : _root_.Go.ChangeSpec) : _root_.Go.OpenSpec := { _root_.Go.OpenSpec.ofChange s with cond := some uptoSmall }

/-- 'laws.FnExactValidRevocation', WHERE WHAT IT READS IS OF BULK AT MOST 1048576: true; the input reads as it did. -/
def fnExactValidRevocationUptoRow : OpenClaim := { program := "ytmjpjapjdhgchaa", sum := "2a75ccd933da5398d6ba0373861928732f9716423d9306d6f1c6987183b31fb1", func := "loop.example/g00505/laws.FnExactValidRevocation", spec := "fnExactValidRevocation", apart := false, narrowed := true }
def FnExactValidRevocationUptoSaid : Prop := fnExactValidRevocationUptoRow.holds Try.pinned (OpenSpec.upto fnExactValidRevocationSpec)

/-- 'laws.FnExactValidReservation', WHERE WHAT IT READS IS OF BULK AT MOST 1048576: true; the input reads as it did. -/
def fnExactValidReservationUptoRow : OpenClaim := { program := "ytmjpjapjdhgchaa", sum := "2a75ccd933da5398d6ba0373861928732f9716423d9306d6f1c6987183b31fb1", func := "loop.example/g00505/laws.FnExactValidReservation", spec := "fnExactValidReservation", apart := false, narrowed := true }
def FnExactValidReservationUptoSaid : Prop := fnExactValidReservationUptoRow.holds Try.pinned (OpenSpec.upto fnExactValidReservationSpec)

/-- 'laws.FnExactReverseKind', WHERE WHAT IT READS IS OF BULK AT MOST 1048576: true; the input reads as it did. -/
def fnExactReverseKindUptoRow : OpenClaim := { program := "ytmjpjapjdhgchaa", sum := "2a75ccd933da5398d6ba0373861928732f9716423d9306d6f1c6987183b31fb1", func := "loop.example/g00505/laws.FnExactReverseKind", spec := "fnExactReverseKind", apart := false, narrowed := true }
def FnExactReverseKindUptoSaid : Prop := fnExactReverseKindUptoRow.holds Try.pinned (OpenSpec.upto fnExactReverseKindSpec)

/-- 'laws.FnExactEqualSteps', WHERE WHAT IT READS IS OF BULK AT MOST 1048576: true; the input reads as it did. -/
def fnExactEqualStepsUptoRow : OpenClaim := { program := "ytmjpjapjdhgchaa", sum := "2a75ccd933da5398d6ba0373861928732f9716423d9306d6f1c6987183b31fb1", func := "loop.example/g00505/laws.FnExactEqualSteps", spec := "fnExactEqualSteps", apart := false, narrowed := true }
def FnExactEqualStepsUptoSaid : Prop := fnExactEqualStepsUptoRow.holds Try.pinned (OpenSpec.upto fnExactEqualStepsSpec)

/-- 'laws.FnExactReservationRate', WHERE WHAT IT READS IS OF BULK AT MOST 1048576: true; the input reads as it did. -/
def fnExactReservationRateUptoRow : OpenClaim := { program := "ytmjpjapjdhgchaa", sum := "2a75ccd933da5398d6ba0373861928732f9716423d9306d6f1c6987183b31fb1", func := "loop.example/g00505/laws.FnExactReservationRate", spec := "fnExactReservationRate", apart := false, narrowed := true }
def FnExactReservationRateUptoSaid : Prop := fnExactReservationRateUptoRow.holds Try.pinned (OpenSpec.upto fnExactReservationRateSpec)

/-- 'laws.FnExactEqualReservations', WHERE WHAT IT READS IS OF BULK AT MOST 1048576: true; the input reads as it did. -/
def fnExactEqualReservationsUptoRow : OpenClaim := { program := "ytmjpjapjdhgchaa", sum := "2a75ccd933da5398d6ba0373861928732f9716423d9306d6f1c6987183b31fb1", func := "loop.example/g00505/laws.FnExactEqualReservations", spec := "fnExactEqualReservations", apart := false, narrowed := true }
def FnExactEqualReservationsUptoSaid : Prop := fnExactEqualReservationsUptoRow.holds Try.pinned (OpenSpec.upto fnExactEqualReservationsSpec)

/-- 'laws.FnExactReservedRate', WHERE WHAT IT READS IS OF BULK AT MOST 1048576: true; the input reads as it did. -/
def fnExactReservedRateUptoRow : OpenClaim := { program := "ytmjpjapjdhgchaa", sum := "2a75ccd933da5398d6ba0373861928732f9716423d9306d6f1c6987183b31fb1", func := "loop.example/g00505/laws.FnExactReservedRate", spec := "fnExactReservedRate", apart := false, narrowed := true }
def FnExactReservedRateUptoSaid : Prop := fnExactReservedRateUptoRow.holds Try.pinned (OpenSpec.upto fnExactReservedRateSpec)

/-- 'laws.FnExactReverseSteps', WHERE WHAT IT READS IS OF BULK AT MOST 1048576: true; the input reads as it did. -/
def fnExactReverseStepsUptoRow : OpenClaim := { program := "ytmjpjapjdhgchaa", sum := "2a75ccd933da5398d6ba0373861928732f9716423d9306d6f1c6987183b31fb1", func := "loop.example/g00505/laws.FnExactReverseSteps", spec := "fnExactReverseSteps", apart := false, narrowed := true }
def FnExactReverseStepsUptoSaid : Prop := fnExactReverseStepsUptoRow.holds Try.pinned (OpenSpec.upto fnExactReverseStepsSpec)

/-- 'laws.FnExactFreeRate', WHERE WHAT IT READS IS OF BULK AT MOST 1048576: true; the input reads as it did. -/
def fnExactFreeRateUptoRow : OpenClaim := { program := "ytmjpjapjdhgchaa", sum := "2a75ccd933da5398d6ba0373861928732f9716423d9306d6f1c6987183b31fb1", func := "loop.example/g00505/laws.FnExactFreeRate", spec := "fnExactFreeRate", apart := false, narrowed := true }
def FnExactFreeRateUptoSaid : Prop := fnExactFreeRateUptoRow.holds Try.pinned (OpenSpec.upto fnExactFreeRateSpec)

/-- 'laws.FnExactActiveRevocations', WHERE WHAT IT READS IS OF BULK AT MOST 1048576: true; the input reads as it did. -/
def fnExactActiveRevocationsUptoRow : OpenClaim := { program := "ytmjpjapjdhgchaa", sum := "2a75ccd933da5398d6ba0373861928732f9716423d9306d6f1c6987183b31fb1", func := "loop.example/g00505/laws.FnExactActiveRevocations", spec := "fnExactActiveRevocations", apart := false, narrowed := true }
def FnExactActiveRevocationsUptoSaid : Prop := fnExactActiveRevocationsUptoRow.holds Try.pinned (OpenSpec.upto fnExactActiveRevocationsSpec)

/-- 'laws.FnExactEncodeRevocation', WHERE WHAT IT READS IS OF BULK AT MOST 1048576: true; the input reads as it did. -/
def fnExactEncodeRevocationUptoRow : OpenClaim := { program := "ytmjpjapjdhgchaa", sum := "2a75ccd933da5398d6ba0373861928732f9716423d9306d6f1c6987183b31fb1", func := "loop.example/g00505/laws.FnExactEncodeRevocation", spec := "fnExactEncodeRevocation", apart := false, narrowed := true }
def FnExactEncodeRevocationUptoSaid : Prop := fnExactEncodeRevocationUptoRow.holds Try.pinned (OpenSpec.upto fnExactEncodeRevocationSpec)

/-- 'laws.FnExactActiveReservations', WHERE WHAT IT READS IS OF BULK AT MOST 1048576: true; the input reads as it did. -/
def fnExactActiveReservationsUptoRow : OpenClaim := { program := "ytmjpjapjdhgchaa", sum := "2a75ccd933da5398d6ba0373861928732f9716423d9306d6f1c6987183b31fb1", func := "loop.example/g00505/laws.FnExactActiveReservations", spec := "fnExactActiveReservations", apart := false, narrowed := true }
def FnExactActiveReservationsUptoSaid : Prop := fnExactActiveReservationsUptoRow.holds Try.pinned (OpenSpec.upto fnExactActiveReservationsSpec)

end Rows
end Go.Proofs.Ytmjpjapjdhgchaa
