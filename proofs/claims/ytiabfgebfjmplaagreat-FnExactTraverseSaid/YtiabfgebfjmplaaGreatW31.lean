/- Contracts of the functions on revocations, program and reference, and of the laws over them. No condition but the bounds that each theorem names. -/
import Derived.Test.YtiabfgebfjmplaaGreatW01
import Derived.Test.YtiabfgebfjmplaaGreatTyRevocation
namespace Go.Proofs.YtiabfgebfjmplaaGreat
open Go.ChangeShapes Go.WideShapes Go.ChangeAt Go.RowKit Go.Deep

def validRev (x : Revc) : Bool := inR x.asn 0 7 && inR x.iface 1 6 && inR x.till 0 1000000




end Go.Proofs.YtiabfgebfjmplaaGreat
