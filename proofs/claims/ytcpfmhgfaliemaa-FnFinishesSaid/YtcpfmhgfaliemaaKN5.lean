/- What these laws need: FnExactFormatTrace, FnFinishes: Contracts of putting a number into an ascending list, program and reference. -/
import Derived.Test.YtcpfmhgfaliemaaKN3
namespace Go.Proofs.Ytcpfmhgfaliemaa
section
open Go.ChangeShapes Go.WideShapes Go.ChangeAt Go.RowKit Go.Deep
def insInt (n : Int) : List Int → List Int
 | [] => [n]
 | x :: l => if x < n then x :: insInt n l else if x = n then x :: l else n :: x :: l
def below (n : Int) (l : List Int) (k : Nat) : Prop := ∀ (j : Nat) (h : j < l.length), j < k → l[j] < n
end
end Go.Proofs.Ytcpfmhgfaliemaa
