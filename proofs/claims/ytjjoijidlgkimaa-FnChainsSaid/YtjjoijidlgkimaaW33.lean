/- Contracts of the filters over revocations and reservations, program and reference. No condition but the bounds that each theorem names. -/
import Derived.Test.YtjjoijidlgkimaaW32
namespace Go.Proofs.Ytjjoijidlgkimaa
open Go.ChangeShapes Go.WideShapes Go.ChangeAt Go.RowKit Go.Deep

theorem elemResv : Nonempty (Elem Try.prog 47 109 5 40) := Elem.mk' Try.underlying47 Try.infoResv rfl (by decide)
def activeRevs (now : Int) (l : List Revc) : List Revc := l.filter fun x => decide (now ≤ x.till)
def activeResvs (now : Int) (l : List Resv) : List Resv := l.filter fun x => decide (now ≤ x.till)
def release (id : Int) (l : List Resv) : List Resv := l.filter fun x => x.id != id







end Go.Proofs.Ytjjoijidlgkimaa
