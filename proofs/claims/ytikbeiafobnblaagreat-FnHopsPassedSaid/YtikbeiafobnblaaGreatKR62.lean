/- What these laws need: FnHopsPassed: Contracts of chains of residues, of comparing rows of numbers, and of keys, program and reference. -/
import Derived.Deep.LoopGhost
import Derived.Test.YtikbeiafobnblaaGreatKR36
namespace Go.Proofs.YtikbeiafobnblaaGreat
section
open Go.ChangeShapes Go.WideShapes Go.ChangeAt Go.RowKit Go.Deep
theorem sameExt {P : Program} {fn : FuncId} {args : Array Value} {w : World} {u : Ending} (h : Calls P fn args w fun e w' => e = u ∧ w = w') : Calls P fn args w fun e w' => e = u ∧ Ext w w' :=
 h.mono fun _ _ h => ⟨h.1, h.2 ▸ Ext.refl _⟩
end
end Go.Proofs.YtikbeiafobnblaaGreat
