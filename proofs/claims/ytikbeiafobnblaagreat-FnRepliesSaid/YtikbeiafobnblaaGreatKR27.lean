/- What these laws need: FnForwards, FnHopsPassed, FnReplies: The draw of a path with a thing turned, and of the code. -/
import Derived.Deep.CutBlock
import Derived.Test.YtikbeiafobnblaaGreatKR13
import Derived.Test.YtikbeiafobnblaaGreatKR22
namespace Go.Proofs.YtikbeiafobnblaaGreat
section
open Go.ChangeShapes Go.WideShapes Go.ChangeAt Go.RowKit Go.Deep
theorem ten_set {w : World} {b : Nat} {x0 x1 x2 x3 x4 x5 x6 x7 x8 x9 : Value} {t : TypeId} (h : w.heap[b]? = some (.cells #[x0, x1, x2, x3, x4, x5, x6, x7, x8, x9] t (0, 0))) (y0 y1 y2 y3 y4 y5 y6 y7 y8 y9 : Value) :
  ∃ w5, w5 = (((((((((w.setCell ⟨b, 0, none⟩ y0).setCell ⟨b, 1, none⟩ y1).setCell ⟨b, 2, none⟩ y2).setCell ⟨b, 3, none⟩ y3).setCell ⟨b, 4, none⟩ y4).setCell ⟨b, 5, none⟩ y5).setCell ⟨b, 6, none⟩ y6).setCell ⟨b, 7, none⟩ y7).setCell ⟨b, 8, none⟩ y8).setCell ⟨b, 9, none⟩ y9 ∧ w5.heap[b]? = some (.cells #[y0, y1, y2, y3, y4, y5, y6, y7, y8, y9] t (0, 0)) ∧ Chg (at1 b) w w5 := by
 have q (o : Nat) (u : Value) {wq : World} (h : Chg (at1 b) w wq) := Chg.setC (S := at1 b) (p := ⟨b, o, none⟩) h rfl u
 exact ⟨_, rfl, by simpa using blk_set (blk_set (blk_set (blk_set (blk_set (blk_set (blk_set (blk_set (blk_set (blk_set h 0 y0) 1 y1) 2 y2) 3 y3) 4 y4) 5 y5) 6 y6) 7 y7) 8 y8) 9 y9, q _ _ (q _ _ (q _ _ (q _ _ (q _ _ (q _ _ (q _ _ (q _ _ (q _ _ (q _ _ (Chg.refl _ _))))))))))⟩
end
end Go.Proofs.YtikbeiafobnblaaGreat
