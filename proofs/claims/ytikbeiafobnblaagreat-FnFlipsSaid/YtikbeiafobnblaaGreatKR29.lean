/- What these laws need: FnFlips, FnForwards: Rows that the call owns, by ranges of blocks, and rows that are only read from now on. -/
import Derived.Test.YtikbeiafobnblaaGreatKR4
import Derived.Test.YtikbeiafobnblaaGreatKR17
namespace Go.Proofs.YtikbeiafobnblaaGreat
section
open Go.ChangeShapes Go.WideShapes Go.ChangeAt Go.RowKit Go.Deep
theorem Own.toF {α : Type} {f : α → List Value} {n : Nat} {hf : ∀ a, (f a).length = n} {e : TypeId} {a b : Nat} {w : World} {v : Value} {l : List α} (h : (Own.flat f n hf e).own (rng a b) w v l) : OwnF f n a e w v l := by
  obtain ⟨h1, h2⟩ := h
  obtain ⟨h3, h4⟩ := h1
  refine ⟨h3, ?_⟩
  rcases h4 with h4 | ⟨g, cap, cur, rfl, hb, hg, r⟩
  · exact .inl h4
  · exact .inr ⟨g, cap, cur, rfl, (h2 g rfl).1, hg, r⟩
end
end Go.Proofs.YtikbeiafobnblaaGreat
