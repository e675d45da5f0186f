/- What these laws need: FnLeases: Contracts of copies of packets and of the check of the current hop, program and reference. -/
import Derived.Test.YtikbeiafobnblaaKQ9
import Derived.Test.YtikbeiafobnblaaKQ13
import Derived.Test.YtikbeiafobnblaaKQ22
import Derived.Test.YtikbeiafobnblaaKQ37
import Derived.Test.YtikbeiafobnblaaKQ38
namespace Go.Proofs.Ytikbeiafobnblaa
section
open Go.ChangeShapes Go.WideShapes Go.ChangeAt Go.RowKit Go.Deep
theorem Chg.set1 {w : World} {b : Nat} (o : Nat) (u : Value) : Chg (fun i => i = b) w (w.setCell ⟨b, o, none⟩ u) := Chg.setCell (S := fun i => i = b) (p := ⟨b, o, none⟩) (Chg.refl _ w) rfl u
theorem Chg.other {w w' : World} {b c : Nat} {o : Obj} (h : Chg (fun i => i = b) w w') (hc : w.heap[c]? = some o) (hne : c ≠ b) : w'.heap[c]? = some o := (h.block c (blk_lt hc) hne).trans hc
end
end Go.Proofs.Ytikbeiafobnblaa
