/- What these laws need: FnForged, FnHopsPassed, FnReplies: Contracts of new packets and replies, program and reference. -/
import Derived.Test.YtjmlicmloacmaaaGreatKR6
import Derived.Test.YtjmlicmloacmaaaGreatKR26
namespace Go.Proofs.YtjmlicmloacmaaaGreat
section
open Go.ChangeShapes Go.WideShapes Go.ChangeAt Go.RowKit Go.Deep
theorem beta0_nil {l : List Part} (h : ¬ 0 < l.length) : beta0 l = 0 := by
 cases l with
 | nil => rfl
 | cons x l => exact absurd (by simp) h
end
end Go.Proofs.YtjmlicmloacmaaaGreat
