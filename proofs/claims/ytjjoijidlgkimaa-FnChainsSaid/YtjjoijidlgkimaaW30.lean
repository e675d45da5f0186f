/- Contracts of the functions on steps and on kinds of parts, program and reference, and of the laws over them. No condition but the bounds that each theorem names. -/
import Derived.Test.YtjjoijidlgkimaaW01
import Derived.Test.YtjjoijidlgkimaaApp
import Derived.Test.YtjjoijidlgkimaaTyStep
namespace Go.Proofs.Ytjjoijidlgkimaa
open Go.ChangeShapes Go.WideShapes Go.ChangeAt Go.RowKit Go.Deep

def revKind (k : Int) : Int := if k == 1 then 4 else if k == 4 then 1 else if k == 2 then 3 else if k == 3 then 2 else k

set_option maxHeartbeats 400000 in
theorem i_ReverseKind (k : Int) (w : World) :
    Calls Try.prog 180 #[.int .i64 k] w fun e w' => e = .returned (.int .i64 (revKind k)) ∧ Ext w w' := by
  go_enter Try.func180, Try.ntmps180
  go_wp2
  all_goals
    go_ret
    refine ⟨ret_int ?_, Ext.refl _⟩
    simp only [revKind, *, if_true, if_false, Bool.false_eq_true]

set_option maxHeartbeats 400000 in
theorem s_ReverseKind (k : Int) (w : World) :
    Calls Try.prog 173 #[.int .i64 k] w fun e w' => e = .returned (.int .i64 (revKind k)) ∧ Ext w w' := by
  go_enter Try.func173, Try.ntmps173
  go_wp2
  all_goals
    go_ret
    refine ⟨ret_int ?_, Ext.refl _⟩
    simp only [revKind, *, if_true, if_false, Bool.false_eq_true]



def revStep (x : Step) : Step := ⟨x.asn, x.eg, x.ing⟩
def revSteps (l : List Step) : List Step := l.reverse.map revStep
theorem elemStep : Nonempty (Elem Try.prog 73 119 3 24) := Elem.mk' Try.underlying73 Try.infoStep rfl (by decide)
theorem revSteps_drop {l : List Step} {k : Nat} (hk : k < l.length) : revSteps (l.drop (k + 1)) ++ [revStep l[k]] = revSteps (l.drop k) := by
  rw [List.drop_eq_getElem_cons hk]; simp only [revSteps, List.reverse_cons, List.map_append, List.map_cons, List.map_nil]



end Go.Proofs.Ytjjoijidlgkimaa
