/- Contracts of the functions on steps and on kinds of parts, program and reference, and of the laws over them. No condition but the bounds that each theorem names. -/
import Derived.Test.YtkolfiedakojoaaW01
import Derived.Test.YtkolfiedakojoaaApp
import Derived.Test.YtkolfiedakojoaaTyStep
namespace Go.Proofs.Ytkolfiedakojoaa
open Go.ChangeShapes Go.WideShapes Go.ChangeAt Go.RowKit Go.Deep

def revKind (k : Int) : Int := if k == 1 then 4 else if k == 4 then 1 else if k == 2 then 3 else if k == 3 then 2 else k





def revStep (x : Step) : Step := ⟨x.asn, x.eg, x.ing⟩
def revSteps (l : List Step) : List Step := l.reverse.map revStep
theorem elemStep : Nonempty (Elem Try.prog 47 55 3 24) := Elem.mk' Try.underlying47 Try.infoStep rfl (by decide)
theorem revSteps_drop {l : List Step} {k : Nat} (hk : k < l.length) : revSteps (l.drop (k + 1)) ++ [revStep l[k]] = revSteps (l.drop k) := by
  rw [List.drop_eq_getElem_cons hk]; simp only [revSteps, List.reverse_cons, List.map_append, List.map_cons, List.map_nil]



end Go.Proofs.Ytkolfiedakojoaa
