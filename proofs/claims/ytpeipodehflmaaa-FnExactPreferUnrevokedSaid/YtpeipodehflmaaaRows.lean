/-
  No cell of these rows narrows 'for every input' (looked for: loops, veiled, ifaces, maps, wideKeys, modest, calm, conditions, laid).
  DERIVED. THE GIVEN ROWS OF THIS SEAT. 12 by the template 'for every input the law returns true; each argument reads behind the call as it read before'; 0 by the template 'total and deterministic' (their statements: YtpeipodehflmaaaTotals.lean).
  GIVEN WITH THE SEED: the statements are not yours to turn. If you find one false, say at which input.
  Laid BY PROGRAM, IN A SANDBOX (cutbox-rows.mjs): the forced cells as the released guide's own fill.sh prints them over the translation 8f04feb02dabedb6… (all of the seat's roots in one cut). By AI agents, Wed Nov 11 2026. No macro, syntax, notation, axiom, sorry.
-/
import Derived.Test.YtpeipodehflmaaaChecked
import GoSem.Claim
import GoSem.ClaimJoined
import GoSem.ClaimMapViews
import Derived.JoinedTies
import Derived.KernelRfl
namespace Go.Proofs.Ytpeipodehflmaaa
/- THE CELL 'sum', in the pinned program and in every row, IS THE sha256 OF THE DUMP (.gsa) THAT YtpeipodehflmaaaProg.lean LOADS. Nothing in Lean hashes anything: it is a label: what it is worth is what the hold of that sum in a sandbox is worth. -/
noncomputable def Try.pinned : Pinned := { name := "ytpeipodehflmaaa", sum := "8f04feb02dabedb6005af27447234e60448e095e9703b15cfef94a473ad1c97b", checked := Try.checked }
namespace Rows
def none {H : Type} : Left H := { results := [], args := [] }

/-- 'laws.FnExactFailedInterfaces': WHATEVER THE INPUT: true; the input reads as it did. -/
def fnExactFailedInterfacesSpec : ChangeSpec := { name := "fnExactFailedInterfaces", fn := fun _ => fun
  | [d1, d2, d3] => { results := [.lit (.bool true)], args := [d1, d2, d3] }
  | _ => none }
def fnExactFailedInterfacesRow : OpenClaim := { program := "ytpeipodehflmaaa", sum := "8f04feb02dabedb6005af27447234e60448e095e9703b15cfef94a473ad1c97b", func := "loop.example/g00505/laws.FnExactFailedInterfaces", spec := "fnExactFailedInterfaces", apart := false }
def FnExactFailedInterfacesSaid : Prop := fnExactFailedInterfacesRow.holds Try.pinned (OpenSpec.ofChange fnExactFailedInterfacesSpec)

/-- ITS FALSE NEIGHBOUR: 'it returns false'. Refute it at one input. -/
def fnExactFailedInterfacesWrong : ChangeSpec := { name := "fnExactFailedInterfaces", fn := fun _ => fun
  | [d1, d2, d3] => { results := [.lit (.bool false)], args := [d1, d2, d3] }
  | _ => none }
def FnExactFailedInterfacesWrongFalsely : Prop := fnExactFailedInterfacesRow.holds Try.pinned (OpenSpec.ofChange fnExactFailedInterfacesWrong)

/-- 'laws.FnExactAffects': WHATEVER THE INPUT: true; the input reads as it did. -/
def fnExactAffectsSpec : ChangeSpec := { name := "fnExactAffects", fn := fun _ => fun
  | [d1, d2] => { results := [.lit (.bool true)], args := [d1, d2] }
  | _ => none }
def fnExactAffectsRow : OpenClaim := { program := "ytpeipodehflmaaa", sum := "8f04feb02dabedb6005af27447234e60448e095e9703b15cfef94a473ad1c97b", func := "loop.example/g00505/laws.FnExactAffects", spec := "fnExactAffects", apart := false }
def FnExactAffectsSaid : Prop := fnExactAffectsRow.holds Try.pinned (OpenSpec.ofChange fnExactAffectsSpec)

/-- ITS FALSE NEIGHBOUR: 'it returns false'. Refute it at one input. -/
def fnExactAffectsWrong : ChangeSpec := { name := "fnExactAffects", fn := fun _ => fun
  | [d1, d2] => { results := [.lit (.bool false)], args := [d1, d2] }
  | _ => none }
def FnExactAffectsWrongFalsely : Prop := fnExactAffectsRow.holds Try.pinned (OpenSpec.ofChange fnExactAffectsWrong)

/-- 'laws.FnExactEgressSteps': WHATEVER THE INPUT: true; the input reads as it did. -/
def fnExactEgressStepsSpec : ChangeSpec := { name := "fnExactEgressSteps", fn := fun _ => fun
  | [d] => { results := [.lit (.bool true)], args := [d] }
  | _ => none }
def fnExactEgressStepsRow : OpenClaim := { program := "ytpeipodehflmaaa", sum := "8f04feb02dabedb6005af27447234e60448e095e9703b15cfef94a473ad1c97b", func := "loop.example/g00505/laws.FnExactEgressSteps", spec := "fnExactEgressSteps", apart := false }
def FnExactEgressStepsSaid : Prop := fnExactEgressStepsRow.holds Try.pinned (OpenSpec.ofChange fnExactEgressStepsSpec)

/-- ITS FALSE NEIGHBOUR: 'it returns false'. Refute it at one input. -/
def fnExactEgressStepsWrong : ChangeSpec := { name := "fnExactEgressSteps", fn := fun _ => fun
  | [d] => { results := [.lit (.bool false)], args := [d] }
  | _ => none }
def FnExactEgressStepsWrongFalsely : Prop := fnExactEgressStepsRow.holds Try.pinned (OpenSpec.ofChange fnExactEgressStepsWrong)

/-- 'laws.FnExactPathReserved': WHATEVER THE INPUT: true; the input reads as it did. -/
def fnExactPathReservedSpec : ChangeSpec := { name := "fnExactPathReserved", fn := fun _ => fun
  | [d1, d2, d3, d4] => { results := [.lit (.bool true)], args := [d1, d2, d3, d4] }
  | _ => none }
def fnExactPathReservedRow : OpenClaim := { program := "ytpeipodehflmaaa", sum := "8f04feb02dabedb6005af27447234e60448e095e9703b15cfef94a473ad1c97b", func := "loop.example/g00505/laws.FnExactPathReserved", spec := "fnExactPathReserved", apart := false }
def FnExactPathReservedSaid : Prop := fnExactPathReservedRow.holds Try.pinned (OpenSpec.ofChange fnExactPathReservedSpec)

/-- ITS FALSE NEIGHBOUR: 'it returns false'. Refute it at one input. -/
def fnExactPathReservedWrong : ChangeSpec := { name := "fnExactPathReserved", fn := fun _ => fun
  | [d1, d2, d3, d4] => { results := [.lit (.bool false)], args := [d1, d2, d3, d4] }
  | _ => none }
def FnExactPathReservedWrongFalsely : Prop := fnExactPathReservedRow.holds Try.pinned (OpenSpec.ofChange fnExactPathReservedWrong)

/-- 'laws.FnExactPathRate': WHATEVER THE INPUT: true; the input reads as it did. -/
def fnExactPathRateSpec : ChangeSpec := { name := "fnExactPathRate", fn := fun _ => fun
  | [d1, d2, d3, d4] => { results := [.lit (.bool true)], args := [d1, d2, d3, d4] }
  | _ => none }
def fnExactPathRateRow : OpenClaim := { program := "ytpeipodehflmaaa", sum := "8f04feb02dabedb6005af27447234e60448e095e9703b15cfef94a473ad1c97b", func := "loop.example/g00505/laws.FnExactPathRate", spec := "fnExactPathRate", unfollowed := true, recurses := true, apart := false }
def FnExactPathRateSaid : Prop := fnExactPathRateRow.holds Try.pinned (OpenSpec.ofChange fnExactPathRateSpec)

/-- ITS FALSE NEIGHBOUR: 'it returns false'. Refute it at one input. -/
def fnExactPathRateWrong : ChangeSpec := { name := "fnExactPathRate", fn := fun _ => fun
  | [d1, d2, d3, d4] => { results := [.lit (.bool false)], args := [d1, d2, d3, d4] }
  | _ => none }
def FnExactPathRateWrongFalsely : Prop := fnExactPathRateRow.holds Try.pinned (OpenSpec.ofChange fnExactPathRateWrong)

/-- 'laws.FnExactReversePath': WHATEVER THE INPUT: true; the input reads as it did. -/
def fnExactReversePathSpec : ChangeSpec := { name := "fnExactReversePath", fn := fun _ => fun
  | [d] => { results := [.lit (.bool true)], args := [d] }
  | _ => none }
def fnExactReversePathRow : OpenClaim := { program := "ytpeipodehflmaaa", sum := "8f04feb02dabedb6005af27447234e60448e095e9703b15cfef94a473ad1c97b", func := "loop.example/g00505/laws.FnExactReversePath", spec := "fnExactReversePath", apart := false }
def FnExactReversePathSaid : Prop := fnExactReversePathRow.holds Try.pinned (OpenSpec.ofChange fnExactReversePathSpec)

/-- ITS FALSE NEIGHBOUR: 'it returns false'. Refute it at one input. -/
def fnExactReversePathWrong : ChangeSpec := { name := "fnExactReversePath", fn := fun _ => fun
  | [d] => { results := [.lit (.bool false)], args := [d] }
  | _ => none }
def FnExactReversePathWrongFalsely : Prop := fnExactReversePathRow.holds Try.pinned (OpenSpec.ofChange fnExactReversePathWrong)

/-- 'laws.FnExactAvailableRate': WHATEVER THE INPUT: true; the input reads as it did. -/
def fnExactAvailableRateSpec : ChangeSpec := { name := "fnExactAvailableRate", fn := fun _ => fun
  | [d1, d2, d3, d4] => { results := [.lit (.bool true)], args := [d1, d2, d3, d4] }
  | _ => none }
def fnExactAvailableRateRow : OpenClaim := { program := "ytpeipodehflmaaa", sum := "8f04feb02dabedb6005af27447234e60448e095e9703b15cfef94a473ad1c97b", func := "loop.example/g00505/laws.FnExactAvailableRate", spec := "fnExactAvailableRate", unfollowed := true, recurses := true, apart := false }
def FnExactAvailableRateSaid : Prop := fnExactAvailableRateRow.holds Try.pinned (OpenSpec.ofChange fnExactAvailableRateSpec)

/-- ITS FALSE NEIGHBOUR: 'it returns false'. Refute it at one input. -/
def fnExactAvailableRateWrong : ChangeSpec := { name := "fnExactAvailableRate", fn := fun _ => fun
  | [d1, d2, d3, d4] => { results := [.lit (.bool false)], args := [d1, d2, d3, d4] }
  | _ => none }
def FnExactAvailableRateWrongFalsely : Prop := fnExactAvailableRateRow.holds Try.pinned (OpenSpec.ofChange fnExactAvailableRateWrong)

/-- 'laws.FnExactRevoked': WHATEVER THE INPUT: true; the input reads as it did. -/
def fnExactRevokedSpec : ChangeSpec := { name := "fnExactRevoked", fn := fun _ => fun
  | [d1, d2, d3] => { results := [.lit (.bool true)], args := [d1, d2, d3] }
  | _ => none }
def fnExactRevokedRow : OpenClaim := { program := "ytpeipodehflmaaa", sum := "8f04feb02dabedb6005af27447234e60448e095e9703b15cfef94a473ad1c97b", func := "loop.example/g00505/laws.FnExactRevoked", spec := "fnExactRevoked", apart := false }
def FnExactRevokedSaid : Prop := fnExactRevokedRow.holds Try.pinned (OpenSpec.ofChange fnExactRevokedSpec)

/-- ITS FALSE NEIGHBOUR: 'it returns false'. Refute it at one input. -/
def fnExactRevokedWrong : ChangeSpec := { name := "fnExactRevoked", fn := fun _ => fun
  | [d1, d2, d3] => { results := [.lit (.bool false)], args := [d1, d2, d3] }
  | _ => none }
def FnExactRevokedWrongFalsely : Prop := fnExactRevokedRow.holds Try.pinned (OpenSpec.ofChange fnExactRevokedWrong)

/-- 'laws.FnExactTraceInterfaces': WHATEVER THE INPUT: true; the input reads as it did. -/
def fnExactTraceInterfacesSpec : ChangeSpec := { name := "fnExactTraceInterfaces", fn := fun _ => fun
  | [d] => { results := [.lit (.bool true)], args := [d] }
  | _ => none }
def fnExactTraceInterfacesRow : OpenClaim := { program := "ytpeipodehflmaaa", sum := "8f04feb02dabedb6005af27447234e60448e095e9703b15cfef94a473ad1c97b", func := "loop.example/g00505/laws.FnExactTraceInterfaces", spec := "fnExactTraceInterfaces", apart := false }
def FnExactTraceInterfacesSaid : Prop := fnExactTraceInterfacesRow.holds Try.pinned (OpenSpec.ofChange fnExactTraceInterfacesSpec)

/-- ITS FALSE NEIGHBOUR: 'it returns false'. Refute it at one input. -/
def fnExactTraceInterfacesWrong : ChangeSpec := { name := "fnExactTraceInterfaces", fn := fun _ => fun
  | [d] => { results := [.lit (.bool false)], args := [d] }
  | _ => none }
def FnExactTraceInterfacesWrongFalsely : Prop := fnExactTraceInterfacesRow.holds Try.pinned (OpenSpec.ofChange fnExactTraceInterfacesWrong)

/-- 'laws.FnExactReservePath': WHATEVER THE INPUT: true; the input reads as it did. -/
def fnExactReservePathSpec : ChangeSpec := { name := "fnExactReservePath", fn := fun _ => fun
  | [d1, d2, d3, d4, d5, d6, d7] => { results := [.lit (.bool true)], args := [d1, d2, d3, d4, d5, d6, d7] }
  | _ => none }
def fnExactReservePathRow : OpenClaim := { program := "ytpeipodehflmaaa", sum := "8f04feb02dabedb6005af27447234e60448e095e9703b15cfef94a473ad1c97b", func := "loop.example/g00505/laws.FnExactReservePath", spec := "fnExactReservePath", apart := false }
def FnExactReservePathSaid : Prop := fnExactReservePathRow.holds Try.pinned (OpenSpec.ofChange fnExactReservePathSpec)

/-- ITS FALSE NEIGHBOUR: 'it returns false'. Refute it at one input. -/
def fnExactReservePathWrong : ChangeSpec := { name := "fnExactReservePath", fn := fun _ => fun
  | [d1, d2, d3, d4, d5, d6, d7] => { results := [.lit (.bool false)], args := [d1, d2, d3, d4, d5, d6, d7] }
  | _ => none }
def FnExactReservePathWrongFalsely : Prop := fnExactReservePathRow.holds Try.pinned (OpenSpec.ofChange fnExactReservePathWrong)

/-- 'laws.FnExactPreferUnrevoked': WHATEVER THE INPUT: true; the input reads as it did. -/
def fnExactPreferUnrevokedSpec : ChangeSpec := { name := "fnExactPreferUnrevoked", fn := fun _ => fun
  | [d1, d2, d3] => { results := [.lit (.bool true)], args := [d1, d2, d3] }
  | _ => none }
def fnExactPreferUnrevokedRow : OpenClaim := { program := "ytpeipodehflmaaa", sum := "8f04feb02dabedb6005af27447234e60448e095e9703b15cfef94a473ad1c97b", func := "loop.example/g00505/laws.FnExactPreferUnrevoked", spec := "fnExactPreferUnrevoked", apart := false }
def FnExactPreferUnrevokedSaid : Prop := fnExactPreferUnrevokedRow.holds Try.pinned (OpenSpec.ofChange fnExactPreferUnrevokedSpec)

/-- ITS FALSE NEIGHBOUR: 'it returns false'. Refute it at one input. -/
def fnExactPreferUnrevokedWrong : ChangeSpec := { name := "fnExactPreferUnrevoked", fn := fun _ => fun
  | [d1, d2, d3] => { results := [.lit (.bool false)], args := [d1, d2, d3] }
  | _ => none }
def FnExactPreferUnrevokedWrongFalsely : Prop := fnExactPreferUnrevokedRow.holds Try.pinned (OpenSpec.ofChange fnExactPreferUnrevokedWrong)

/-- 'laws.FnExactReply': WHATEVER THE INPUT: true; the input reads as it did. -/
def fnExactReplySpec : ChangeSpec := { name := "fnExactReply", fn := fun _ => fun
  | [d1, d2, d3, d4] => { results := [.lit (.bool true)], args := [d1, d2, d3, d4] }
  | _ => none }
def fnExactReplyRow : OpenClaim := { program := "ytpeipodehflmaaa", sum := "8f04feb02dabedb6005af27447234e60448e095e9703b15cfef94a473ad1c97b", func := "loop.example/g00505/laws.FnExactReply", spec := "fnExactReply", apart := false }
def FnExactReplySaid : Prop := fnExactReplyRow.holds Try.pinned (OpenSpec.ofChange fnExactReplySpec)

/-- ITS FALSE NEIGHBOUR: 'it returns false'. Refute it at one input. -/
def fnExactReplyWrong : ChangeSpec := { name := "fnExactReply", fn := fun _ => fun
  | [d1, d2, d3, d4] => { results := [.lit (.bool false)], args := [d1, d2, d3, d4] }
  | _ => none }
def FnExactReplyWrongFalsely : Prop := fnExactReplyRow.holds Try.pinned (OpenSpec.ofChange fnExactReplyWrong)

/- THE SECOND FORM. 'bulk': how many values and letters a reading holds, each counted each time it is reached (what is shared counts as often as it is met; a slice's spare places count too). A statement '..UptoSaid' is the law's where the arguments, and the package variables that the reading takes, are together of bulk at most 1048576: NARROWER than '..Said'. Prove '..Said' where nothing that the law and all that it calls make is longer than what came in: it says more and counts as full. Else prove '..UptoSaid'. A law counts once. -/
mutual
def uptoBulk {H : Type} : DataW H → Nat
  | .lit (.string bytes) => bytes.length + 1
  | .lit _ => 1
  | .nil => 1
  | .ptr d => uptoBulk d + 1
  | .slice elems spare => uptoBulkAll elems + uptoBulkAll spare + 1
  | .agg parts => uptoBulkAll parts + 1
  | .iface _ d => uptoBulk d + 1
  | .map entries => uptoBulkEntries entries + 1
  | .held _ => 1
def uptoBulkAll {H : Type} : List (DataW H) → Nat
  | [] => 0
  | d :: r => uptoBulk d + uptoBulkAll r
def uptoBulkEntries {H : Type} : List (Lit × DataW H) → Nat
  | [] => 0
  | x :: r => uptoBulkEntry x + uptoBulkEntries r
def uptoBulkEntry {H : Type} : Lit × DataW H → Nat
  | (.string bytes, d) => bytes.length + uptoBulk d + 1
  | (_, d) => uptoBulk d + 1
 end
def uptoSmall : (H : Type) → List (DataW H) → Bool := fun _ ds => decide (uptoBulkAll ds ≤ 1048576)
def OpenSpec.upto (s : _root_.Go.ChangeSpec) : _root_.Go.OpenSpec := { _root_.Go.OpenSpec.ofChange s with cond := some uptoSmall }

/-- 'laws.FnExactFailedInterfaces', WHERE WHAT IT READS IS OF BULK AT MOST 1048576: true; the input reads as it did. -/
def fnExactFailedInterfacesUptoRow : OpenClaim := { program := "ytpeipodehflmaaa", sum := "8f04feb02dabedb6005af27447234e60448e095e9703b15cfef94a473ad1c97b", func := "loop.example/g00505/laws.FnExactFailedInterfaces", spec := "fnExactFailedInterfaces", apart := false, narrowed := true }
def FnExactFailedInterfacesUptoSaid : Prop := fnExactFailedInterfacesUptoRow.holds Try.pinned (OpenSpec.upto fnExactFailedInterfacesSpec)

/-- 'laws.FnExactAffects', WHERE WHAT IT READS IS OF BULK AT MOST 1048576: true; the input reads as it did. -/
def fnExactAffectsUptoRow : OpenClaim := { program := "ytpeipodehflmaaa", sum := "8f04feb02dabedb6005af27447234e60448e095e9703b15cfef94a473ad1c97b", func := "loop.example/g00505/laws.FnExactAffects", spec := "fnExactAffects", apart := false, narrowed := true }
def FnExactAffectsUptoSaid : Prop := fnExactAffectsUptoRow.holds Try.pinned (OpenSpec.upto fnExactAffectsSpec)

/-- 'laws.FnExactEgressSteps', WHERE WHAT IT READS IS OF BULK AT MOST 1048576: true; the input reads as it did. -/
def fnExactEgressStepsUptoRow : OpenClaim := { program := "ytpeipodehflmaaa", sum := "8f04feb02dabedb6005af27447234e60448e095e9703b15cfef94a473ad1c97b", func := "loop.example/g00505/laws.FnExactEgressSteps", spec := "fnExactEgressSteps", apart := false, narrowed := true }
def FnExactEgressStepsUptoSaid : Prop := fnExactEgressStepsUptoRow.holds Try.pinned (OpenSpec.upto fnExactEgressStepsSpec)

/-- 'laws.FnExactPathReserved', WHERE WHAT IT READS IS OF BULK AT MOST 1048576: true; the input reads as it did. -/
def fnExactPathReservedUptoRow : OpenClaim := { program := "ytpeipodehflmaaa", sum := "8f04feb02dabedb6005af27447234e60448e095e9703b15cfef94a473ad1c97b", func := "loop.example/g00505/laws.FnExactPathReserved", spec := "fnExactPathReserved", apart := false, narrowed := true }
def FnExactPathReservedUptoSaid : Prop := fnExactPathReservedUptoRow.holds Try.pinned (OpenSpec.upto fnExactPathReservedSpec)

/-- 'laws.FnExactPathRate', WHERE WHAT IT READS IS OF BULK AT MOST 1048576: true; the input reads as it did. -/
def fnExactPathRateUptoRow : OpenClaim := { program := "ytpeipodehflmaaa", sum := "8f04feb02dabedb6005af27447234e60448e095e9703b15cfef94a473ad1c97b", func := "loop.example/g00505/laws.FnExactPathRate", spec := "fnExactPathRate", unfollowed := true, recurses := true, apart := false, narrowed := true }
def FnExactPathRateUptoSaid : Prop := fnExactPathRateUptoRow.holds Try.pinned (OpenSpec.upto fnExactPathRateSpec)

/-- 'laws.FnExactReversePath', WHERE WHAT IT READS IS OF BULK AT MOST 1048576: true; the input reads as it did. -/
def fnExactReversePathUptoRow : OpenClaim := { program := "ytpeipodehflmaaa", sum := "8f04feb02dabedb6005af27447234e60448e095e9703b15cfef94a473ad1c97b", func := "loop.example/g00505/laws.FnExactReversePath", spec := "fnExactReversePath", apart := false, narrowed := true }
def FnExactReversePathUptoSaid : Prop := fnExactReversePathUptoRow.holds Try.pinned (OpenSpec.upto fnExactReversePathSpec)

/-- 'laws.FnExactAvailableRate', WHERE WHAT IT READS IS OF BULK AT MOST 1048576: true; the input reads as it did. -/
def fnExactAvailableRateUptoRow : OpenClaim := { program := "ytpeipodehflmaaa", sum := "8f04feb02dabedb6005af27447234e60448e095e9703b15cfef94a473ad1c97b", func := "loop.example/g00505/laws.FnExactAvailableRate", spec := "fnExactAvailableRate", unfollowed := true, recurses := true, apart := false, narrowed := true }
def FnExactAvailableRateUptoSaid : Prop := fnExactAvailableRateUptoRow.holds Try.pinned (OpenSpec.upto fnExactAvailableRateSpec)

/-- 'laws.FnExactRevoked', WHERE WHAT IT READS IS OF BULK AT MOST 1048576: true; the input reads as it did. -/
def fnExactRevokedUptoRow : OpenClaim := { program := "ytpeipodehflmaaa", sum := "8f04feb02dabedb6005af27447234e60448e095e9703b15cfef94a473ad1c97b", func := "loop.example/g00505/laws.FnExactRevoked", spec := "fnExactRevoked", apart := false, narrowed := true }
def FnExactRevokedUptoSaid : Prop := fnExactRevokedUptoRow.holds Try.pinned (OpenSpec.upto fnExactRevokedSpec)

/-- 'laws.FnExactTraceInterfaces', WHERE WHAT IT READS IS OF BULK AT MOST 1048576: true; the input reads as it did. -/
def fnExactTraceInterfacesUptoRow : OpenClaim := { program := "ytpeipodehflmaaa", sum := "8f04feb02dabedb6005af27447234e60448e095e9703b15cfef94a473ad1c97b", func := "loop.example/g00505/laws.FnExactTraceInterfaces", spec := "fnExactTraceInterfaces", apart := false, narrowed := true }
def FnExactTraceInterfacesUptoSaid : Prop := fnExactTraceInterfacesUptoRow.holds Try.pinned (OpenSpec.upto fnExactTraceInterfacesSpec)

/-- 'laws.FnExactReservePath', WHERE WHAT IT READS IS OF BULK AT MOST 1048576: true; the input reads as it did. -/
def fnExactReservePathUptoRow : OpenClaim := { program := "ytpeipodehflmaaa", sum := "8f04feb02dabedb6005af27447234e60448e095e9703b15cfef94a473ad1c97b", func := "loop.example/g00505/laws.FnExactReservePath", spec := "fnExactReservePath", apart := false, narrowed := true }
def FnExactReservePathUptoSaid : Prop := fnExactReservePathUptoRow.holds Try.pinned (OpenSpec.upto fnExactReservePathSpec)

/-- 'laws.FnExactPreferUnrevoked', WHERE WHAT IT READS IS OF BULK AT MOST 1048576: true; the input reads as it did. -/
def fnExactPreferUnrevokedUptoRow : OpenClaim := { program := "ytpeipodehflmaaa", sum := "8f04feb02dabedb6005af27447234e60448e095e9703b15cfef94a473ad1c97b", func := "loop.example/g00505/laws.FnExactPreferUnrevoked", spec := "fnExactPreferUnrevoked", apart := false, narrowed := true }
def FnExactPreferUnrevokedUptoSaid : Prop := fnExactPreferUnrevokedUptoRow.holds Try.pinned (OpenSpec.upto fnExactPreferUnrevokedSpec)

/-- 'laws.FnExactReply', WHERE WHAT IT READS IS OF BULK AT MOST 1048576: true; the input reads as it did. -/
def fnExactReplyUptoRow : OpenClaim := { program := "ytpeipodehflmaaa", sum := "8f04feb02dabedb6005af27447234e60448e095e9703b15cfef94a473ad1c97b", func := "loop.example/g00505/laws.FnExactReply", spec := "fnExactReply", apart := false, narrowed := true }
def FnExactReplyUptoSaid : Prop := fnExactReplyUptoRow.holds Try.pinned (OpenSpec.upto fnExactReplySpec)

end Rows
end Go.Proofs.Ytpeipodehflmaaa
