/- Contracts of the filters over revocations and reservations, program and reference. No condition but the bounds that each theorem names. -/
import Derived.Test.YtiabfgebfjmplaaGreatW32
namespace Go.Proofs.YtiabfgebfjmplaaGreat
open Go.ChangeShapes Go.WideShapes Go.ChangeAt Go.RowKit Go.Deep

def activeRevs (now : Int) (l : List Revc) : List Revc := l.filter fun x => decide (now ≤ x.till)
def activeResvs (now : Int) (l : List Resv) : List Resv := l.filter fun x => decide (now ≤ x.till)
def release (id : Int) (l : List Resv) : List Resv := l.filter fun x => x.id != id







end Go.Proofs.YtiabfgebfjmplaaGreat
