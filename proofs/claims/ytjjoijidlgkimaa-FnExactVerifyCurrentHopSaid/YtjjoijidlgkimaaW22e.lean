/- Contracts of the ends of paths, program and reference. No condition but the bounds that each theorem names. -/
import Derived.Test.YtjjoijidlgkimaaW22p
namespace Go.Proofs.Ytjjoijidlgkimaa
open Go.ChangeShapes Go.WideShapes Go.ChangeAt Go.RowKit Go.Deep

theorem ret_two {a b c d : Int} (h1 : a = c) (h2 : b = d) : Ending.returned (.tuple #[.int .i64 a, .int .i64 b]) = .returned (.tuple #[.int .i64 c, .int .i64 d]) := by rw [h1, h2]
def oppEnds (a b : Pth) : Bool := (ends a.parts).1 == (ends b.parts).2 && (ends a.parts).2 == (ends b.parts).1



end Go.Proofs.Ytjjoijidlgkimaa
