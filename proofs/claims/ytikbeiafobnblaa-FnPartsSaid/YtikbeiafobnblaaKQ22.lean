/- What these laws need: FnLeases, FnParts: Contracts of the ends of paths, program and reference. Contracts of new packets and replies, program and reference. -/
import Derived.Test.YtikbeiafobnblaaKQ21
namespace Go.Proofs.Ytikbeiafobnblaa
section
open Go.ChangeShapes Go.WideShapes Go.ChangeAt Go.RowKit Go.Deep
def oppEnds (a b : Pth) : Bool := (ends a.parts).1 == (ends b.parts).2 && (ends a.parts).2 == (ends b.parts).1
end
section
open Go.ChangeShapes Go.WideShapes Go.ChangeAt Go.RowKit Go.Deep
def beta0 : List Part → Int
 | [] => 0
 | x :: _ => x.beta
theorem beta0_at {l : List Part} (h : 0 < l.length) : beta0 l = l[0].beta := by
 cases l with
 | nil => cases h
 | cons x l => rfl
def newPkt (kind : Int) (p : Pth) (rid seq : Int) (pay : List Int) : Pkt := ⟨kind, (ends p.parts).1, (ends p.parts).2, p, 0, 0, beta0 p.parts, rid, seq, pay⟩
def reply (x : Pkt) (kind seq : Int) (pay : List Int) : Pkt := newPkt kind (revPath x.path) x.rid seq pay
end
end Go.Proofs.Ytikbeiafobnblaa
