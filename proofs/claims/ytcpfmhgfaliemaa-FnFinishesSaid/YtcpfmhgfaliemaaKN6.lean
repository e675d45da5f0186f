/- What these laws need: FnExactFormatTrace, FnFinishes: Contracts of the interfaces that paths use and of what revocations affect, program and reference. -/
import Derived.Test.YtcpfmhgfaliemaaKN4
namespace Go.Proofs.Ytcpfmhgfaliemaa
section
open Go.ChangeShapes Go.WideShapes Go.ChangeAt Go.RowKit Go.Deep
def hasI (l : List Int) (n : Int) : Bool := l.any (fun x => x == n)
def ifNum (a d : Int) : Int := wrap64 (wrap64 (8 * a) + d)
def stepIfs (s : Step) : List Int := (if s.ing != 0 then [ifNum s.asn s.ing] else []) ++ (if s.eg != 0 then [ifNum s.asn s.eg] else [])
def usedIfs (l : List Step) : List Int := l.flatMap stepIfs
end
end Go.Proofs.Ytcpfmhgfaliemaa
