/- What these laws need: FnLeases, FnRoom: Contracts of copies of packets and of the check of the current hop, program and reference. -/
import Derived.Test.YtpijlnfjdajeeaaKQ9
import Derived.Test.YtpijlnfjdajeeaaKQ13
import Derived.Test.YtpijlnfjdajeeaaKQ29
namespace Go.Proofs.Ytpijlnfjdajeeaa
section
open Go.ChangeShapes Go.WideShapes Go.ChangeAt Go.RowKit Go.Deep
theorem Chg.set1 {w : World} {b : Nat} (o : Nat) (u : Value) : Chg (fun i => i = b) w (w.setCell ⟨b, o, none⟩ u) := Chg.setCell (S := fun i => i = b) (p := ⟨b, o, none⟩) (Chg.refl _ w) rfl u
theorem Chg.other {w w' : World} {b c : Nat} {o : Obj} (h : Chg (fun i => i = b) w w') (hc : w.heap[c]? = some o) (hne : c ≠ b) : w'.heap[c]? = some o := (h.block c (blk_lt hc) hne).trans hc
end
end Go.Proofs.Ytpijlnfjdajeeaa
