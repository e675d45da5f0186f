/-
  No cell of these rows narrows 'for every input' (looked for: loops, veiled, ifaces, maps, wideKeys, modest, calm, conditions, laid).
  DERIVED. THE GIVEN ROWS OF THIS SEAT. 12 by the template 'for every input the law returns true; each argument reads behind the call as it read before'; 0 by the template 'total and deterministic' (their statements: YtjcojpnfoblpgaaTotals.lean).
  GIVEN WITH THE SEED: the statements are not yours to turn. If you find one false, say at which input.
  Laid BY PROGRAM, IN A SANDBOX (cutbox-rows.mjs): the forced cells as the released guide's own fill.sh prints them over the translation 08b200415476826d… (all of the seat's roots in one cut). By AI agents, Wed Nov 11 2026. No macro, syntax, notation, axiom, sorry.
-/
import Derived.Test.YtjcojpnfoblpgaaChecked
import GoSem.Claim
import GoSem.ClaimJoined
import GoSem.ClaimMapViews
import Derived.JoinedTies
import Derived.KernelRfl
namespace Go.Proofs.Ytjcojpnfoblpgaa
/- THE CELL 'sum', in the pinned program and in every row, IS THE sha256 OF THE DUMP (.gsa) THAT YtjcojpnfoblpgaaProg.lean LOADS. Nothing in Lean hashes anything: it is a label: what it is worth is what the hold of that sum in a sandbox is worth. -/
noncomputable def Try.pinned : Pinned := { name := "ytjcojpnfoblpgaa", sum := "08b200415476826de758ddd2fd06497b5281e077bd5943e9e61b6363e6a8c8e0", checked := Try.checked }
namespace Rows
def none {H : Type} : Left H := { results := [], args := [] }

/-- 'laws.FnExactRelease': WHATEVER THE INPUT: true; the input reads as it did. -/
def fnExactReleaseSpec : ChangeSpec := { name := "fnExactRelease", fn := fun _ => fun
  | [d1, d2] => { results := [.lit (.bool true)], args := [d1, d2] }
  | _ => none }
def fnExactReleaseRow : OpenClaim := { program := "ytjcojpnfoblpgaa", sum := "08b200415476826de758ddd2fd06497b5281e077bd5943e9e61b6363e6a8c8e0", func := "loop.example/g00505/laws.FnExactRelease", spec := "fnExactRelease", apart := false }
def FnExactReleaseSaid : Prop := fnExactReleaseRow.holds Try.pinned (OpenSpec.ofChange fnExactReleaseSpec)

/-- ITS FALSE NEIGHBOUR: 'it returns false'. Refute it at one input. -/
def fnExactReleaseWrong : ChangeSpec := { name := "fnExactRelease", fn := fun _ => fun
  | [d1, d2] => { results := [.lit (.bool false)], args := [d1, d2] }
  | _ => none }
def FnExactReleaseWrongFalsely : Prop := fnExactReleaseRow.holds Try.pinned (OpenSpec.ofChange fnExactReleaseWrong)

/-- 'laws.FnChains': WHATEVER THE INPUT: true; the input reads as it did. -/
def fnChainsSpec : ChangeSpec := { name := "fnChains", fn := fun _ => fun
  | [d] => { results := [.lit (.bool true)], args := [d] }
  | _ => none }
def fnChainsRow : OpenClaim := { program := "ytjcojpnfoblpgaa", sum := "08b200415476826de758ddd2fd06497b5281e077bd5943e9e61b6363e6a8c8e0", func := "loop.example/g00505/laws.FnChains", spec := "fnChains", apart := false }
def FnChainsSaid : Prop := fnChainsRow.holds Try.pinned (OpenSpec.ofChange fnChainsSpec)

/-- ITS FALSE NEIGHBOUR: 'it returns false'. Refute it at one input. -/
def fnChainsWrong : ChangeSpec := { name := "fnChains", fn := fun _ => fun
  | [d] => { results := [.lit (.bool false)], args := [d] }
  | _ => none }
def FnChainsWrongFalsely : Prop := fnChainsRow.holds Try.pinned (OpenSpec.ofChange fnChainsWrong)

/-- 'laws.FnExactValidReservations': WHATEVER THE INPUT: true; the input reads as it did. -/
def fnExactValidReservationsSpec : ChangeSpec := { name := "fnExactValidReservations", fn := fun _ => fun
  | [d1, d2, d3] => { results := [.lit (.bool true)], args := [d1, d2, d3] }
  | _ => none }
def fnExactValidReservationsRow : OpenClaim := { program := "ytjcojpnfoblpgaa", sum := "08b200415476826de758ddd2fd06497b5281e077bd5943e9e61b6363e6a8c8e0", func := "loop.example/g00505/laws.FnExactValidReservations", spec := "fnExactValidReservations", apart := false }
def FnExactValidReservationsSaid : Prop := fnExactValidReservationsRow.holds Try.pinned (OpenSpec.ofChange fnExactValidReservationsSpec)

/-- ITS FALSE NEIGHBOUR: 'it returns false'. Refute it at one input. -/
def fnExactValidReservationsWrong : ChangeSpec := { name := "fnExactValidReservations", fn := fun _ => fun
  | [d1, d2, d3] => { results := [.lit (.bool false)], args := [d1, d2, d3] }
  | _ => none }
def FnExactValidReservationsWrongFalsely : Prop := fnExactValidReservationsRow.holds Try.pinned (OpenSpec.ofChange fnExactValidReservationsWrong)

/-- 'laws.FnExactAddRevocation': WHATEVER THE INPUT: true; the input reads as it did. -/
def fnExactAddRevocationSpec : ChangeSpec := { name := "fnExactAddRevocation", fn := fun _ => fun
  | [d1, d2] => { results := [.lit (.bool true)], args := [d1, d2] }
  | _ => none }
def fnExactAddRevocationRow : OpenClaim := { program := "ytjcojpnfoblpgaa", sum := "08b200415476826de758ddd2fd06497b5281e077bd5943e9e61b6363e6a8c8e0", func := "loop.example/g00505/laws.FnExactAddRevocation", spec := "fnExactAddRevocation", apart := false }
def FnExactAddRevocationSaid : Prop := fnExactAddRevocationRow.holds Try.pinned (OpenSpec.ofChange fnExactAddRevocationSpec)

/-- ITS FALSE NEIGHBOUR: 'it returns false'. Refute it at one input. -/
def fnExactAddRevocationWrong : ChangeSpec := { name := "fnExactAddRevocation", fn := fun _ => fun
  | [d1, d2] => { results := [.lit (.bool false)], args := [d1, d2] }
  | _ => none }
def FnExactAddRevocationWrongFalsely : Prop := fnExactAddRevocationRow.holds Try.pinned (OpenSpec.ofChange fnExactAddRevocationWrong)

/-- 'laws.FnExactDecodeRevocation': WHATEVER THE INPUT: true; the input reads as it did. -/
def fnExactDecodeRevocationSpec : ChangeSpec := { name := "fnExactDecodeRevocation", fn := fun _ => fun
  | [d] => { results := [.lit (.bool true)], args := [d] }
  | _ => none }
def fnExactDecodeRevocationRow : OpenClaim := { program := "ytjcojpnfoblpgaa", sum := "08b200415476826de758ddd2fd06497b5281e077bd5943e9e61b6363e6a8c8e0", func := "loop.example/g00505/laws.FnExactDecodeRevocation", spec := "fnExactDecodeRevocation", apart := false }
def FnExactDecodeRevocationSaid : Prop := fnExactDecodeRevocationRow.holds Try.pinned (OpenSpec.ofChange fnExactDecodeRevocationSpec)

/-- ITS FALSE NEIGHBOUR: 'it returns false'. Refute it at one input. -/
def fnExactDecodeRevocationWrong : ChangeSpec := { name := "fnExactDecodeRevocation", fn := fun _ => fun
  | [d] => { results := [.lit (.bool false)], args := [d] }
  | _ => none }
def FnExactDecodeRevocationWrongFalsely : Prop := fnExactDecodeRevocationRow.holds Try.pinned (OpenSpec.ofChange fnExactDecodeRevocationWrong)

/-- 'laws.FnExactReservationIDs': WHATEVER THE INPUT: true; the input reads as it did. -/
def fnExactReservationIDsSpec : ChangeSpec := { name := "fnExactReservationIDs", fn := fun _ => fun
  | [d] => { results := [.lit (.bool true)], args := [d] }
  | _ => none }
def fnExactReservationIDsRow : OpenClaim := { program := "ytjcojpnfoblpgaa", sum := "08b200415476826de758ddd2fd06497b5281e077bd5943e9e61b6363e6a8c8e0", func := "loop.example/g00505/laws.FnExactReservationIDs", spec := "fnExactReservationIDs", apart := false }
def FnExactReservationIDsSaid : Prop := fnExactReservationIDsRow.holds Try.pinned (OpenSpec.ofChange fnExactReservationIDsSpec)

/-- ITS FALSE NEIGHBOUR: 'it returns false'. Refute it at one input. -/
def fnExactReservationIDsWrong : ChangeSpec := { name := "fnExactReservationIDs", fn := fun _ => fun
  | [d] => { results := [.lit (.bool false)], args := [d] }
  | _ => none }
def FnExactReservationIDsWrongFalsely : Prop := fnExactReservationIDsRow.holds Try.pinned (OpenSpec.ofChange fnExactReservationIDsWrong)

/-- 'laws.FnExactSentCount': WHATEVER THE INPUT: true; the input reads as it did. -/
def fnExactSentCountSpec : ChangeSpec := { name := "fnExactSentCount", fn := fun _ => fun
  | [d1, d2, d3] => { results := [.lit (.bool true)], args := [d1, d2, d3] }
  | _ => none }
def fnExactSentCountRow : OpenClaim := { program := "ytjcojpnfoblpgaa", sum := "08b200415476826de758ddd2fd06497b5281e077bd5943e9e61b6363e6a8c8e0", func := "loop.example/g00505/laws.FnExactSentCount", spec := "fnExactSentCount", apart := false }
def FnExactSentCountSaid : Prop := fnExactSentCountRow.holds Try.pinned (OpenSpec.ofChange fnExactSentCountSpec)

/-- ITS FALSE NEIGHBOUR: 'it returns false'. Refute it at one input. -/
def fnExactSentCountWrong : ChangeSpec := { name := "fnExactSentCount", fn := fun _ => fun
  | [d1, d2, d3] => { results := [.lit (.bool false)], args := [d1, d2, d3] }
  | _ => none }
def FnExactSentCountWrongFalsely : Prop := fnExactSentCountRow.holds Try.pinned (OpenSpec.ofChange fnExactSentCountWrong)

/-- 'laws.FnExactAdmit': WHATEVER THE INPUT: true; the input reads as it did. -/
def fnExactAdmitSpec : ChangeSpec := { name := "fnExactAdmit", fn := fun _ => fun
  | [d1, d2, d3, d4] => { results := [.lit (.bool true)], args := [d1, d2, d3, d4] }
  | _ => none }
def fnExactAdmitRow : OpenClaim := { program := "ytjcojpnfoblpgaa", sum := "08b200415476826de758ddd2fd06497b5281e077bd5943e9e61b6363e6a8c8e0", func := "loop.example/g00505/laws.FnExactAdmit", spec := "fnExactAdmit", apart := false }
def FnExactAdmitSaid : Prop := fnExactAdmitRow.holds Try.pinned (OpenSpec.ofChange fnExactAdmitSpec)

/-- ITS FALSE NEIGHBOUR: 'it returns false'. Refute it at one input. -/
def fnExactAdmitWrong : ChangeSpec := { name := "fnExactAdmit", fn := fun _ => fun
  | [d1, d2, d3, d4] => { results := [.lit (.bool false)], args := [d1, d2, d3, d4] }
  | _ => none }
def FnExactAdmitWrongFalsely : Prop := fnExactAdmitRow.holds Try.pinned (OpenSpec.ofChange fnExactAdmitWrong)

/-- 'laws.FnExactUsedCount': WHATEVER THE INPUT: true; the input reads as it did. -/
def fnExactUsedCountSpec : ChangeSpec := { name := "fnExactUsedCount", fn := fun _ => fun
  | [d1, d2, d3, d4] => { results := [.lit (.bool true)], args := [d1, d2, d3, d4] }
  | _ => none }
def fnExactUsedCountRow : OpenClaim := { program := "ytjcojpnfoblpgaa", sum := "08b200415476826de758ddd2fd06497b5281e077bd5943e9e61b6363e6a8c8e0", func := "loop.example/g00505/laws.FnExactUsedCount", spec := "fnExactUsedCount", apart := false }
def FnExactUsedCountSaid : Prop := fnExactUsedCountRow.holds Try.pinned (OpenSpec.ofChange fnExactUsedCountSpec)

/-- ITS FALSE NEIGHBOUR: 'it returns false'. Refute it at one input. -/
def fnExactUsedCountWrong : ChangeSpec := { name := "fnExactUsedCount", fn := fun _ => fun
  | [d1, d2, d3, d4] => { results := [.lit (.bool false)], args := [d1, d2, d3, d4] }
  | _ => none }
def FnExactUsedCountWrongFalsely : Prop := fnExactUsedCountRow.holds Try.pinned (OpenSpec.ofChange fnExactUsedCountWrong)

/-- 'laws.FnMacs': WHATEVER THE INPUT: true; the input reads as it did. -/
def fnMacsSpec : ChangeSpec := { name := "fnMacs", fn := fun _ => fun
  | [d] => { results := [.lit (.bool true)], args := [d] }
  | _ => none }
def fnMacsRow : OpenClaim := { program := "ytjcojpnfoblpgaa", sum := "08b200415476826de758ddd2fd06497b5281e077bd5943e9e61b6363e6a8c8e0", func := "loop.example/g00505/laws.FnMacs", spec := "fnMacs", apart := false }
def FnMacsSaid : Prop := fnMacsRow.holds Try.pinned (OpenSpec.ofChange fnMacsSpec)

/-- ITS FALSE NEIGHBOUR: 'it returns false'. Refute it at one input. -/
def fnMacsWrong : ChangeSpec := { name := "fnMacs", fn := fun _ => fun
  | [d] => { results := [.lit (.bool false)], args := [d] }
  | _ => none }
def FnMacsWrongFalsely : Prop := fnMacsRow.holds Try.pinned (OpenSpec.ofChange fnMacsWrong)

/-- 'laws.FnExactReversePart': WHATEVER THE INPUT: true; the input reads as it did. -/
def fnExactReversePartSpec : ChangeSpec := { name := "fnExactReversePart", fn := fun _ => fun
  | [d] => { results := [.lit (.bool true)], args := [d] }
  | _ => none }
def fnExactReversePartRow : OpenClaim := { program := "ytjcojpnfoblpgaa", sum := "08b200415476826de758ddd2fd06497b5281e077bd5943e9e61b6363e6a8c8e0", func := "loop.example/g00505/laws.FnExactReversePart", spec := "fnExactReversePart", apart := false }
def FnExactReversePartSaid : Prop := fnExactReversePartRow.holds Try.pinned (OpenSpec.ofChange fnExactReversePartSpec)

/-- ITS FALSE NEIGHBOUR: 'it returns false'. Refute it at one input. -/
def fnExactReversePartWrong : ChangeSpec := { name := "fnExactReversePart", fn := fun _ => fun
  | [d] => { results := [.lit (.bool false)], args := [d] }
  | _ => none }
def FnExactReversePartWrongFalsely : Prop := fnExactReversePartRow.holds Try.pinned (OpenSpec.ofChange fnExactReversePartWrong)

/-- 'laws.FnExactOppositeEndpoints': WHATEVER THE INPUT: true; the input reads as it did. -/
def fnExactOppositeEndpointsSpec : ChangeSpec := { name := "fnExactOppositeEndpoints", fn := fun _ => fun
  | [d1, d2] => { results := [.lit (.bool true)], args := [d1, d2] }
  | _ => none }
def fnExactOppositeEndpointsRow : OpenClaim := { program := "ytjcojpnfoblpgaa", sum := "08b200415476826de758ddd2fd06497b5281e077bd5943e9e61b6363e6a8c8e0", func := "loop.example/g00505/laws.FnExactOppositeEndpoints", spec := "fnExactOppositeEndpoints", apart := false }
def FnExactOppositeEndpointsSaid : Prop := fnExactOppositeEndpointsRow.holds Try.pinned (OpenSpec.ofChange fnExactOppositeEndpointsSpec)

/-- ITS FALSE NEIGHBOUR: 'it returns false'. Refute it at one input. -/
def fnExactOppositeEndpointsWrong : ChangeSpec := { name := "fnExactOppositeEndpoints", fn := fun _ => fun
  | [d1, d2] => { results := [.lit (.bool false)], args := [d1, d2] }
  | _ => none }
def FnExactOppositeEndpointsWrongFalsely : Prop := fnExactOppositeEndpointsRow.holds Try.pinned (OpenSpec.ofChange fnExactOppositeEndpointsWrong)

/- THE SECOND FORM. 'bulk': how many values and letters a reading holds, each counted each time it is reached (what is shared counts as often as it is met; a slice's spare places count too). A statement '..UptoSaid' is the law's where the arguments, and the package variables that the reading takes, are together of bulk at most 1048576: NARROWER than '..Said'. Prove '..Said' where nothing that the law and all that it calls make is longer than what came in: it says more and counts as full. Else prove '..UptoSaid'. A law counts once. -/
mutual
def uptoBulk {H : Type} : DataW H → Nat
  | .lit (.string bytes) => bytes.length + 1
  | .lit _ => 1
  | .nil => 1
  | .ptr d => uptoBulk d + 1
  | .slice elems spare => uptoBulkAll elems + uptoBulkAll spare + 1
  | .agg parts => uptoBulkAll parts + 1
  | .iface _ d => uptoBulk d + 1
  | .map entries => uptoBulkEntries entries + 1
  | .held _ => 1
def uptoBulkAll {H : Type} : List (DataW H) → Nat
  | [] => 0
  | d :: r => uptoBulk d + uptoBulkAll r
def uptoBulkEntries {H : Type} : List (Lit × DataW H) → Nat
  | [] => 0
  | x :: r => uptoBulkEntry x + uptoBulkEntries r
def uptoBulkEntry {H : Type} : Lit × DataW H → Nat
  | (.string bytes, d) => bytes.length + uptoBulk d + 1
  | (_, d) => uptoBulk d + 1
 end
def uptoSmall : (H : Type) → List (DataW H) → Bool := fun _ ds => decide (uptoBulkAll ds ≤ 1048576)
def OpenSpec.upto (s : _root_.Go.ChangeSpec) : _root_.Go.OpenSpec := { _root_.Go.OpenSpec.ofChange s with cond := some uptoSmall }

/-- 'laws.FnExactRelease', WHERE WHAT IT READS IS OF BULK AT MOST 1048576: true; the input reads as it did. -/
def fnExactReleaseUptoRow : OpenClaim := { program := "ytjcojpnfoblpgaa", sum := "08b200415476826de758ddd2fd06497b5281e077bd5943e9e61b6363e6a8c8e0", func := "loop.example/g00505/laws.FnExactRelease", spec := "fnExactRelease", apart := false, narrowed := true }
def FnExactReleaseUptoSaid : Prop := fnExactReleaseUptoRow.holds Try.pinned (OpenSpec.upto fnExactReleaseSpec)

/-- 'laws.FnChains', WHERE WHAT IT READS IS OF BULK AT MOST 1048576: true; the input reads as it did. -/
def fnChainsUptoRow : OpenClaim := { program := "ytjcojpnfoblpgaa", sum := "08b200415476826de758ddd2fd06497b5281e077bd5943e9e61b6363e6a8c8e0", func := "loop.example/g00505/laws.FnChains", spec := "fnChains", apart := false, narrowed := true }
def FnChainsUptoSaid : Prop := fnChainsUptoRow.holds Try.pinned (OpenSpec.upto fnChainsSpec)

/-- 'laws.FnExactValidReservations', WHERE WHAT IT READS IS OF BULK AT MOST 1048576: true; the input reads as it did. -/
def fnExactValidReservationsUptoRow : OpenClaim := { program := "ytjcojpnfoblpgaa", sum := "08b200415476826de758ddd2fd06497b5281e077bd5943e9e61b6363e6a8c8e0", func := "loop.example/g00505/laws.FnExactValidReservations", spec := "fnExactValidReservations", apart := false, narrowed := true }
def FnExactValidReservationsUptoSaid : Prop := fnExactValidReservationsUptoRow.holds Try.pinned (OpenSpec.upto fnExactValidReservationsSpec)

/-- 'laws.FnExactAddRevocation', WHERE WHAT IT READS IS OF BULK AT MOST 1048576: true; the input reads as it did. -/
def fnExactAddRevocationUptoRow : OpenClaim := { program := "ytjcojpnfoblpgaa", sum := "08b200415476826de758ddd2fd06497b5281e077bd5943e9e61b6363e6a8c8e0", func := "loop.example/g00505/laws.FnExactAddRevocation", spec := "fnExactAddRevocation", apart := false, narrowed := true }
def FnExactAddRevocationUptoSaid : Prop := fnExactAddRevocationUptoRow.holds Try.pinned (OpenSpec.upto fnExactAddRevocationSpec)

/-- 'laws.FnExactDecodeRevocation', WHERE WHAT IT READS IS OF BULK AT MOST 1048576: true; the input reads as it did. -/
def fnExactDecodeRevocationUptoRow : OpenClaim := { program := "ytjcojpnfoblpgaa", sum := "08b200415476826de758ddd2fd06497b5281e077bd5943e9e61b6363e6a8c8e0", func := "loop.example/g00505/laws.FnExactDecodeRevocation", spec := "fnExactDecodeRevocation", apart := false, narrowed := true }
def FnExactDecodeRevocationUptoSaid : Prop := fnExactDecodeRevocationUptoRow.holds Try.pinned (OpenSpec.upto fnExactDecodeRevocationSpec)

/-- 'laws.FnExactReservationIDs', WHERE WHAT IT READS IS OF BULK AT MOST 1048576: true; the input reads as it did. -/
def fnExactReservationIDsUptoRow : OpenClaim := { program := "ytjcojpnfoblpgaa", sum := "08b200415476826de758ddd2fd06497b5281e077bd5943e9e61b6363e6a8c8e0", func := "loop.example/g00505/laws.FnExactReservationIDs", spec := "fnExactReservationIDs", apart := false, narrowed := true }
def FnExactReservationIDsUptoSaid : Prop := fnExactReservationIDsUptoRow.holds Try.pinned (OpenSpec.upto fnExactReservationIDsSpec)

/-- 'laws.FnExactSentCount', WHERE WHAT IT READS IS OF BULK AT MOST 1048576: true; the input reads as it did. -/
def fnExactSentCountUptoRow : OpenClaim := { program := "ytjcojpnfoblpgaa", sum := "08b200415476826de758ddd2fd06497b5281e077bd5943e9e61b6363e6a8c8e0", func := "loop.example/g00505/laws.FnExactSentCount", spec := "fnExactSentCount", apart := false, narrowed := true }
def FnExactSentCountUptoSaid : Prop := fnExactSentCountUptoRow.holds Try.pinned (OpenSpec.upto fnExactSentCountSpec)

/-- 'laws.FnExactAdmit', WHERE WHAT IT READS IS OF BULK AT MOST 1048576: true; the input reads as it did. -/
def fnExactAdmitUptoRow : OpenClaim := { program := "ytjcojpnfoblpgaa", sum := "08b200415476826de758ddd2fd06497b5281e077bd5943e9e61b6363e6a8c8e0", func := "loop.example/g00505/laws.FnExactAdmit", spec := "fnExactAdmit", apart := false, narrowed := true }
def FnExactAdmitUptoSaid : Prop := fnExactAdmitUptoRow.holds Try.pinned (OpenSpec.upto fnExactAdmitSpec)

/-- 'laws.FnExactUsedCount', WHERE WHAT IT READS IS OF BULK AT MOST 1048576: true; the input reads as it did. -/
def fnExactUsedCountUptoRow : OpenClaim := { program := "ytjcojpnfoblpgaa", sum := "08b200415476826de758ddd2fd06497b5281e077bd5943e9e61b6363e6a8c8e0", func := "loop.example/g00505/laws.FnExactUsedCount", spec := "fnExactUsedCount", apart := false, narrowed := true }
def FnExactUsedCountUptoSaid : Prop := fnExactUsedCountUptoRow.holds Try.pinned (OpenSpec.upto fnExactUsedCountSpec)

/-- 'laws.FnMacs', WHERE WHAT IT READS IS OF BULK AT MOST 1048576: true; the input reads as it did. -/
def fnMacsUptoRow : OpenClaim := { program := "ytjcojpnfoblpgaa", sum := "08b200415476826de758ddd2fd06497b5281e077bd5943e9e61b6363e6a8c8e0", func := "loop.example/g00505/laws.FnMacs", spec := "fnMacs", apart := false, narrowed := true }
def FnMacsUptoSaid : Prop := fnMacsUptoRow.holds Try.pinned (OpenSpec.upto fnMacsSpec)

/-- 'laws.FnExactReversePart', WHERE WHAT IT READS IS OF BULK AT MOST 1048576: true; the input reads as it did. -/
def fnExactReversePartUptoRow : OpenClaim := { program := "ytjcojpnfoblpgaa", sum := "08b200415476826de758ddd2fd06497b5281e077bd5943e9e61b6363e6a8c8e0", func := "loop.example/g00505/laws.FnExactReversePart", spec := "fnExactReversePart", apart := false, narrowed := true }
def FnExactReversePartUptoSaid : Prop := fnExactReversePartUptoRow.holds Try.pinned (OpenSpec.upto fnExactReversePartSpec)

/-- 'laws.FnExactOppositeEndpoints', WHERE WHAT IT READS IS OF BULK AT MOST 1048576: true; the input reads as it did. -/
def fnExactOppositeEndpointsUptoRow : OpenClaim := { program := "ytjcojpnfoblpgaa", sum := "08b200415476826de758ddd2fd06497b5281e077bd5943e9e61b6363e6a8c8e0", func := "loop.example/g00505/laws.FnExactOppositeEndpoints", spec := "fnExactOppositeEndpoints", apart := false, narrowed := true }
def FnExactOppositeEndpointsUptoSaid : Prop := fnExactOppositeEndpointsUptoRow.holds Try.pinned (OpenSpec.upto fnExactOppositeEndpointsSpec)

end Rows
end Go.Proofs.Ytjcojpnfoblpgaa
