/- What these laws need: FnLeases: Contracts of the check of a hop and of what becomes of a packet at an AS, program and reference. -/
import Derived.Test.YtikbeiafobnblaaKQ43
namespace Go.Proofs.Ytikbeiafobnblaa
section
open Go.ChangeShapes Go.WideShapes Go.ChangeAt Go.RowKit Go.Deep
theorem verCur_path (t : Topo) (x : Pkt) : (verCur t x).path = x.path := by unfold verCur; split <;> rfl
end
end Go.Proofs.Ytikbeiafobnblaa
