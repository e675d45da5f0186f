/- Contract of turning a part around, reference. No condition but the bounds that each theorem names. -/
import Derived.Test.YtiabfgebfjmplaaGreatW30r
namespace Go.Proofs.YtiabfgebfjmplaaGreat
open Go.ChangeShapes Go.WideShapes Go.ChangeAt Go.RowKit Go.Deep

theorem blk_set4 {w : World} {b : Nat} {x0 x1 x2 x3 : Value} {t : TypeId} {f : Nat × Nat} (h : w.heap[b]? = some (.cells #[x0, x1, x2, x3] t f)) (y0 y1 y2 y3 : Value) :
    ((((w.setCell ⟨b, 0, none⟩ y0).setCell ⟨b, 1, none⟩ y1).setCell ⟨b, 2, none⟩ y2).setCell ⟨b, 3, none⟩ y3).heap[b]? = some (.cells #[y0, y1, y2, y3] t f) := by
  have := blk_set (blk_set (blk_set (blk_set h 0 y0) 1 y1) 2 y2) 3 y3
  simpa using this
theorem ext_set4 {a w : World} (h : Ext a w) {b : Nat} (hb : a.heap.size ≤ b) (y0 y1 y2 y3 : Value) : Ext a ((((w.setCell ⟨b, 0, none⟩ y0).setCell ⟨b, 1, none⟩ y1).setCell ⟨b, 2, none⟩ y2).setCell ⟨b, 3, none⟩ y3) :=
  (((h.setCell hb _).setCell hb _).setCell hb _).setCell hb _

end Go.Proofs.YtiabfgebfjmplaaGreat
