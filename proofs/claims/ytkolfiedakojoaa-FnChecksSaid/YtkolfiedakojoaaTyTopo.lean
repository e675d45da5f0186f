/- The data of the struct Topology, how it reads, and the contracts of the laws' helper functions over it. No condition but the bounds that each theorem names. -/
import Derived.Test.YtkolfiedakojoaaBlk
import Derived.Test.YtkolfiedakojoaaTyAS
import Derived.Test.YtkolfiedakojoaaTyLink
namespace Go.Proofs.Ytkolfiedakojoaa
open Go.ChangeShapes Go.WideShapes Go.ChangeAt Go.RowKit Go.Deep

structure Topo where
  ases : List ASd
  links : List Lnk
  deriving DecidableEq
def Topo.size (x : Topo) : Nat := x.ases.length + x.links.length
def Topo.rep : Rep Topo where
  cells := 2
  rd w cs x := ∃ v1 v2, cs = [v1, v2] ∧ RdS ASd.rep w v1 x.ases ∧ RdS Lnk.rep w v2 x.links
  len := by rintro w cs a ⟨v1, v2, rfl, _⟩; rfl
  ext := by rintro w w' cs a e ⟨v1, v2, rfl, h1, h2⟩; exact ⟨v1, v2, rfl, h1.ext e, h2.ext e⟩
def Topo.ok (x : Topo) : Prop := (∀ y ∈ x.ases, ASd.ok y) ∧ ∀ y ∈ x.links, Lnk.ok y
theorem szL_addT {left : Int} {n m : Nat} (_ : ¬ left - n < 0) : szL (left - n) m = szL left (n + m) := by
  unfold szL
  by_cases h2 : left - n - m < 0
  · rw [if_pos h2, if_pos (by omega)]
  · rw [if_neg h2, if_neg (by omega)]; omega
end Go.Proofs.Ytkolfiedakojoaa
