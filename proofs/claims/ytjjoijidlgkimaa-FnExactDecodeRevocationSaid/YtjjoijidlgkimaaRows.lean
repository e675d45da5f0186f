/-
  No cell of these rows narrows 'for every input' (looked for: loops, veiled, ifaces, maps, wideKeys, modest, calm, conditions, laid).
  DERIVED. THE GIVEN ROWS OF THIS SEAT. 7 by the template 'for every input the law returns true; each argument reads behind the call as it read before'; 0 by the template 'total and deterministic' (their statements: YtjjoijidlgkimaaTotals.lean).
  GIVEN WITH THE SEED: the statements are not yours to turn. If you find one false, say at which input.
  Laid BY PROGRAM, IN A SANDBOX (cutbox-rows.mjs): the forced cells as the released guide's own fill.sh prints them over the translation 3de3b5c6dbcc86f2… (all of the seat's roots in one cut). By AI agents, Wed Nov 11 2026. No macro, syntax, notation, axiom, sorry.
-/
import Derived.Test.YtjjoijidlgkimaaChecked
import GoSem.Claim
import GoSem.ClaimJoined
import GoSem.ClaimMapViews
import Derived.JoinedTies
import Derived.KernelRfl
namespace Go.Proofs.Ytjjoijidlgkimaa
/- THE CELL 'sum', in the pinned program and in every row, IS THE sha256 OF THE DUMP (.gsa) THAT YtjjoijidlgkimaaProg.lean LOADS. Nothing in Lean hashes anything: it is a label: what it is worth is what the hold of that sum in a sandbox is worth. -/
noncomputable def Try.pinned : Pinned := { name := "ytjjoijidlgkimaa", sum := "3de3b5c6dbcc86f2e10a7fb3bc039b3c67f904c82a05675ed471e2f0ef7e4162", checked := Try.checked }
namespace Rows
def none {H : Type} : Left H := { results := [], args := [] }

/-- 'laws.FnChains': WHATEVER THE INPUT: true; the input reads as it did. -/
def fnChainsSpec : ChangeSpec := { name := "fnChains", fn := fun _ => fun
  | [d] => { results := [.lit (.bool true)], args := [d] }
  | _ => none }
def fnChainsRow : OpenClaim := { program := "ytjjoijidlgkimaa", sum := "3de3b5c6dbcc86f2e10a7fb3bc039b3c67f904c82a05675ed471e2f0ef7e4162", func := "loop.example/g00505/laws.FnChains", spec := "fnChains", apart := false }
def FnChainsSaid : Prop := fnChainsRow.holds Try.pinned (OpenSpec.ofChange fnChainsSpec)

/-- ITS FALSE NEIGHBOUR: 'it returns false'. Refute it at one input. -/
def fnChainsWrong : ChangeSpec := { name := "fnChains", fn := fun _ => fun
  | [d] => { results := [.lit (.bool false)], args := [d] }
  | _ => none }
def FnChainsWrongFalsely : Prop := fnChainsRow.holds Try.pinned (OpenSpec.ofChange fnChainsWrong)

/-- 'laws.FnMacs': WHATEVER THE INPUT: true; the input reads as it did. -/
def fnMacsSpec : ChangeSpec := { name := "fnMacs", fn := fun _ => fun
  | [d] => { results := [.lit (.bool true)], args := [d] }
  | _ => none }
def fnMacsRow : OpenClaim := { program := "ytjjoijidlgkimaa", sum := "3de3b5c6dbcc86f2e10a7fb3bc039b3c67f904c82a05675ed471e2f0ef7e4162", func := "loop.example/g00505/laws.FnMacs", spec := "fnMacs", apart := false }
def FnMacsSaid : Prop := fnMacsRow.holds Try.pinned (OpenSpec.ofChange fnMacsSpec)

/-- ITS FALSE NEIGHBOUR: 'it returns false'. Refute it at one input. -/
def fnMacsWrong : ChangeSpec := { name := "fnMacs", fn := fun _ => fun
  | [d] => { results := [.lit (.bool false)], args := [d] }
  | _ => none }
def FnMacsWrongFalsely : Prop := fnMacsRow.holds Try.pinned (OpenSpec.ofChange fnMacsWrong)

/-- 'laws.FnExactDecodeRevocation': WHATEVER THE INPUT: true; the input reads as it did. -/
def fnExactDecodeRevocationSpec : ChangeSpec := { name := "fnExactDecodeRevocation", fn := fun _ => fun
  | [d] => { results := [.lit (.bool true)], args := [d] }
  | _ => none }
def fnExactDecodeRevocationRow : OpenClaim := { program := "ytjjoijidlgkimaa", sum := "3de3b5c6dbcc86f2e10a7fb3bc039b3c67f904c82a05675ed471e2f0ef7e4162", func := "loop.example/g00505/laws.FnExactDecodeRevocation", spec := "fnExactDecodeRevocation", apart := false }
def FnExactDecodeRevocationSaid : Prop := fnExactDecodeRevocationRow.holds Try.pinned (OpenSpec.ofChange fnExactDecodeRevocationSpec)

/-- ITS FALSE NEIGHBOUR: 'it returns false'. Refute it at one input. -/
def fnExactDecodeRevocationWrong : ChangeSpec := { name := "fnExactDecodeRevocation", fn := fun _ => fun
  | [d] => { results := [.lit (.bool false)], args := [d] }
  | _ => none }
def FnExactDecodeRevocationWrongFalsely : Prop := fnExactDecodeRevocationRow.holds Try.pinned (OpenSpec.ofChange fnExactDecodeRevocationWrong)

/-- 'laws.FnExactReservationIDs': WHATEVER THE INPUT: true; the input reads as it did. -/
def fnExactReservationIDsSpec : ChangeSpec := { name := "fnExactReservationIDs", fn := fun _ => fun
  | [d] => { results := [.lit (.bool true)], args := [d] }
  | _ => none }
def fnExactReservationIDsRow : OpenClaim := { program := "ytjjoijidlgkimaa", sum := "3de3b5c6dbcc86f2e10a7fb3bc039b3c67f904c82a05675ed471e2f0ef7e4162", func := "loop.example/g00505/laws.FnExactReservationIDs", spec := "fnExactReservationIDs", apart := false }
def FnExactReservationIDsSaid : Prop := fnExactReservationIDsRow.holds Try.pinned (OpenSpec.ofChange fnExactReservationIDsSpec)

/-- ITS FALSE NEIGHBOUR: 'it returns false'. Refute it at one input. -/
def fnExactReservationIDsWrong : ChangeSpec := { name := "fnExactReservationIDs", fn := fun _ => fun
  | [d] => { results := [.lit (.bool false)], args := [d] }
  | _ => none }
def FnExactReservationIDsWrongFalsely : Prop := fnExactReservationIDsRow.holds Try.pinned (OpenSpec.ofChange fnExactReservationIDsWrong)

/-- 'laws.FnExactFormatTrace': WHATEVER THE INPUT: true; the input reads as it did. -/
def fnExactFormatTraceSpec : ChangeSpec := { name := "fnExactFormatTrace", fn := fun _ => fun
  | [d1, d2] => { results := [.lit (.bool true)], args := [d1, d2] }
  | _ => none }
def fnExactFormatTraceRow : OpenClaim := { program := "ytjjoijidlgkimaa", sum := "3de3b5c6dbcc86f2e10a7fb3bc039b3c67f904c82a05675ed471e2f0ef7e4162", func := "loop.example/g00505/laws.FnExactFormatTrace", spec := "fnExactFormatTrace", apart := false }
def FnExactFormatTraceSaid : Prop := fnExactFormatTraceRow.holds Try.pinned (OpenSpec.ofChange fnExactFormatTraceSpec)

/-- ITS FALSE NEIGHBOUR: 'it returns false'. Refute it at one input. -/
def fnExactFormatTraceWrong : ChangeSpec := { name := "fnExactFormatTrace", fn := fun _ => fun
  | [d1, d2] => { results := [.lit (.bool false)], args := [d1, d2] }
  | _ => none }
def FnExactFormatTraceWrongFalsely : Prop := fnExactFormatTraceRow.holds Try.pinned (OpenSpec.ofChange fnExactFormatTraceWrong)

/-- 'laws.FnExactVerifyCurrentHop': WHATEVER THE INPUT: true; the input reads as it did. -/
def fnExactVerifyCurrentHopSpec : ChangeSpec := { name := "fnExactVerifyCurrentHop", fn := fun _ => fun
  | [d1, d2] => { results := [.lit (.bool true)], args := [d1, d2] }
  | _ => none }
def fnExactVerifyCurrentHopRow : OpenClaim := { program := "ytjjoijidlgkimaa", sum := "3de3b5c6dbcc86f2e10a7fb3bc039b3c67f904c82a05675ed471e2f0ef7e4162", func := "loop.example/g00505/laws.FnExactVerifyCurrentHop", spec := "fnExactVerifyCurrentHop", apart := false }
def FnExactVerifyCurrentHopSaid : Prop := fnExactVerifyCurrentHopRow.holds Try.pinned (OpenSpec.ofChange fnExactVerifyCurrentHopSpec)

/-- ITS FALSE NEIGHBOUR: 'it returns false'. Refute it at one input. -/
def fnExactVerifyCurrentHopWrong : ChangeSpec := { name := "fnExactVerifyCurrentHop", fn := fun _ => fun
  | [d1, d2] => { results := [.lit (.bool false)], args := [d1, d2] }
  | _ => none }
def FnExactVerifyCurrentHopWrongFalsely : Prop := fnExactVerifyCurrentHopRow.holds Try.pinned (OpenSpec.ofChange fnExactVerifyCurrentHopWrong)

/-- 'laws.FnExactBidirectional': WHATEVER THE INPUT: true; the input reads as it did. -/
def fnExactBidirectionalSpec : ChangeSpec := { name := "fnExactBidirectional", fn := fun _ => fun
  | [d1, d2, d3] => { results := [.lit (.bool true)], args := [d1, d2, d3] }
  | _ => none }
def fnExactBidirectionalRow : OpenClaim := { program := "ytjjoijidlgkimaa", sum := "3de3b5c6dbcc86f2e10a7fb3bc039b3c67f904c82a05675ed471e2f0ef7e4162", func := "loop.example/g00505/laws.FnExactBidirectional", spec := "fnExactBidirectional", apart := false }
def FnExactBidirectionalSaid : Prop := fnExactBidirectionalRow.holds Try.pinned (OpenSpec.ofChange fnExactBidirectionalSpec)

/-- ITS FALSE NEIGHBOUR: 'it returns false'. Refute it at one input. -/
def fnExactBidirectionalWrong : ChangeSpec := { name := "fnExactBidirectional", fn := fun _ => fun
  | [d1, d2, d3] => { results := [.lit (.bool false)], args := [d1, d2, d3] }
  | _ => none }
def FnExactBidirectionalWrongFalsely : Prop := fnExactBidirectionalRow.holds Try.pinned (OpenSpec.ofChange fnExactBidirectionalWrong)

/- THE SECOND FORM. 'bulk': how many values and letters a reading holds, each counted each time it is reached (what is shared counts as often as it is met; a slice's spare places count too). A statement '..UptoSaid' is the law's where the arguments, and the package variables that the reading takes, are together of bulk at most 1048576: NARROWER than '..Said'. Prove '..Said' where nothing that the law and all that it calls make is longer than what came in: it says more and counts as full. Else prove '..UptoSaid'. A law counts once. -/
mutual
def uptoBulk {H : Type} : DataW H → Nat
  | .lit (.string bytes) => bytes.length + 1
  | .lit _ => 1
  | .nil => 1
  | .ptr d => uptoBulk d + 1
  | .slice elems spare => uptoBulkAll elems + uptoBulkAll spare + 1
  | .agg parts => uptoBulkAll parts + 1
  | .iface _ d => uptoBulk d + 1
  | .map entries => uptoBulkEntries entries + 1
  | .held _ => 1
def uptoBulkAll {H : Type} : List (DataW H) → Nat
  | [] => 0
  | d :: r => uptoBulk d + uptoBulkAll r
def uptoBulkEntries {H : Type} : List (Lit × DataW H) → Nat
  | [] => 0
  | x :: r => uptoBulkEntry x + uptoBulkEntries r
def uptoBulkEntry {H : Type} : Lit × DataW H → Nat
  | (.string bytes, d) => bytes.length + uptoBulk d + 1
  | (_, d) => uptoBulk d + 1
 end
def uptoSmall : (H : Type) → List (DataW H) → Bool := fun _ ds => decide (uptoBulkAll ds ≤ 1048576)
def OpenSpec.upto (s : _root_.Go.ChangeSpec) : _root_.Go.OpenSpec := { _root_.Go.OpenSpec.ofChange s with cond := some uptoSmall }

/-- 'laws.FnChains', WHERE WHAT IT READS IS OF BULK AT MOST 1048576: true; the input reads as it did. -/
def fnChainsUptoRow : OpenClaim := { program := "ytjjoijidlgkimaa", sum := "3de3b5c6dbcc86f2e10a7fb3bc039b3c67f904c82a05675ed471e2f0ef7e4162", func := "loop.example/g00505/laws.FnChains", spec := "fnChains", apart := false, narrowed := true }
def FnChainsUptoSaid : Prop := fnChainsUptoRow.holds Try.pinned (OpenSpec.upto fnChainsSpec)

/-- 'laws.FnMacs', WHERE WHAT IT READS IS OF BULK AT MOST 1048576: true; the input reads as it did. -/
def fnMacsUptoRow : OpenClaim := { program := "ytjjoijidlgkimaa", sum := "3de3b5c6dbcc86f2e10a7fb3bc039b3c67f904c82a05675ed471e2f0ef7e4162", func := "loop.example/g00505/laws.FnMacs", spec := "fnMacs", apart := false, narrowed := true }
def FnMacsUptoSaid : Prop := fnMacsUptoRow.holds Try.pinned (OpenSpec.upto fnMacsSpec)

/-- 'laws.FnExactDecodeRevocation', WHERE WHAT IT READS IS OF BULK AT MOST 1048576: true; the input reads as it did. -/
def fnExactDecodeRevocationUptoRow : OpenClaim := { program := "ytjjoijidlgkimaa", sum := "3de3b5c6dbcc86f2e10a7fb3bc039b3c67f904c82a05675ed471e2f0ef7e4162", func := "loop.example/g00505/laws.FnExactDecodeRevocation", spec := "fnExactDecodeRevocation", apart := false, narrowed := true }
def FnExactDecodeRevocationUptoSaid : Prop := fnExactDecodeRevocationUptoRow.holds Try.pinned (OpenSpec.upto fnExactDecodeRevocationSpec)

/-- 'laws.FnExactReservationIDs', WHERE WHAT IT READS IS OF BULK AT MOST 1048576: true; the input reads as it did. -/
def fnExactReservationIDsUptoRow : OpenClaim := { program := "ytjjoijidlgkimaa", sum := "3de3b5c6dbcc86f2e10a7fb3bc039b3c67f904c82a05675ed471e2f0ef7e4162", func := "loop.example/g00505/laws.FnExactReservationIDs", spec := "fnExactReservationIDs", apart := false, narrowed := true }
def FnExactReservationIDsUptoSaid : Prop := fnExactReservationIDsUptoRow.holds Try.pinned (OpenSpec.upto fnExactReservationIDsSpec)

/-- 'laws.FnExactFormatTrace', WHERE WHAT IT READS IS OF BULK AT MOST 1048576: true; the input reads as it did. -/
def fnExactFormatTraceUptoRow : OpenClaim := { program := "ytjjoijidlgkimaa", sum := "3de3b5c6dbcc86f2e10a7fb3bc039b3c67f904c82a05675ed471e2f0ef7e4162", func := "loop.example/g00505/laws.FnExactFormatTrace", spec := "fnExactFormatTrace", apart := false, narrowed := true }
def FnExactFormatTraceUptoSaid : Prop := fnExactFormatTraceUptoRow.holds Try.pinned (OpenSpec.upto fnExactFormatTraceSpec)

/-- 'laws.FnExactVerifyCurrentHop', WHERE WHAT IT READS IS OF BULK AT MOST 1048576: true; the input reads as it did. -/
def fnExactVerifyCurrentHopUptoRow : OpenClaim := { program := "ytjjoijidlgkimaa", sum := "3de3b5c6dbcc86f2e10a7fb3bc039b3c67f904c82a05675ed471e2f0ef7e4162", func := "loop.example/g00505/laws.FnExactVerifyCurrentHop", spec := "fnExactVerifyCurrentHop", apart := false, narrowed := true }
def FnExactVerifyCurrentHopUptoSaid : Prop := fnExactVerifyCurrentHopUptoRow.holds Try.pinned (OpenSpec.upto fnExactVerifyCurrentHopSpec)

/-- 'laws.FnExactBidirectional', WHERE WHAT IT READS IS OF BULK AT MOST 1048576: true; the input reads as it did. -/
def fnExactBidirectionalUptoRow : OpenClaim := { program := "ytjjoijidlgkimaa", sum := "3de3b5c6dbcc86f2e10a7fb3bc039b3c67f904c82a05675ed471e2f0ef7e4162", func := "loop.example/g00505/laws.FnExactBidirectional", spec := "fnExactBidirectional", apart := false, narrowed := true }
def FnExactBidirectionalUptoSaid : Prop := fnExactBidirectionalUptoRow.holds Try.pinned (OpenSpec.upto fnExactBidirectionalSpec)

end Rows
end Go.Proofs.Ytjjoijidlgkimaa
