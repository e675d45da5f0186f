/- Contracts of the functions on reservations, program and reference. No condition but the bounds that each theorem names. -/
import Derived.Test.YtjjoijidlgkimaaW31
import Derived.Test.YtjjoijidlgkimaaApp
import Derived.Test.YtjjoijidlgkimaaTyReservation
namespace Go.Proofs.Ytjjoijidlgkimaa
open Go.ChangeShapes Go.WideShapes Go.ChangeAt Go.RowKit Go.Deep

def resvAt (r : Resv) (a i : Int) : Bool := (r.asn == a) && (r.iface == i)
def resvAtNow (r : Resv) (a i now : Int) : Bool := resvAt r a i && decide (now ≤ r.till)
def validResv (x : Resv) : Bool := inR x.id 1 100000 && inR x.rate 1 20 && validRev ⟨x.asn, x.iface, x.till⟩


def sumRate (a i now : Int) : List Resv → Int → Int
  | [], n => n
  | r :: l, n => sumRate a i now l (if resvAtNow r a i now then wrap64 (n + r.rate) else n)
def resvdRate (l : List Resv) (a i now : Int) : Int := sumRate a i now l 0
def resvRate (l : List Resv) (id a i now : Int) : Int :=
  match l with
  | [] => 0
  | r :: l => if (r.id == id) && resvAtNow r a i now then r.rate else resvRate l id a i now
def freeRate (l : List Resv) (cap a i now : Int) : Int := max 0 (wrap64 (cap - resvdRate l a i now))






end Go.Proofs.Ytjjoijidlgkimaa
