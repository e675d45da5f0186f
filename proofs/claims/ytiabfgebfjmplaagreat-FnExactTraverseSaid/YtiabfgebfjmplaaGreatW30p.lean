/- Contracts of turning paths around, program and reference. No condition but the bounds that each theorem names. -/
import Derived.Test.YtiabfgebfjmplaaGreatW30s
import Derived.Test.YtiabfgebfjmplaaGreatAppN
import Derived.Test.YtiabfgebfjmplaaGreatTyPartM
namespace Go.Proofs.YtiabfgebfjmplaaGreat
open Go.ChangeShapes Go.WideShapes Go.ChangeAt Go.RowKit Go.Deep

def revParts (l : List Part) : List Part := (l.map revPart).reverse
def revPath (x : Pth) : Pth := ⟨revParts x.parts⟩
theorem revParts_drop {l : List Part} {k : Nat} (hk : k < l.length) : revParts (l.drop (k + 1)) ++ [revPart l[k]] = revParts (l.drop k) := by
  unfold revParts
  rw [List.drop_eq_getElem_cons hk, List.map_cons, List.reverse_cons]
theorem revParts_len (l : List Part) : (revParts l).length = l.length := by simp [revParts]
theorem revParts_hops (l : List Part) : hopsN (revParts l) = hopsN l := by
  have h : ∀ l : List Part, hopsN (l.map revPart) = hopsN l := by
    intro l
    induction l with
    | nil => rfl
    | cons x l ih => rw [List.map_cons, hopsN_cons, hopsN_cons, ih]; simp [revPart]
  have h2 : ∀ l : List Part, hopsN l.reverse = hopsN l := by
    intro l
    induction l with
    | nil => rfl
    | cons x l ih =>
      rw [List.reverse_cons, hopsN_cons, ← ih]
      simp [hopsN, Part.size]; omega
  unfold revParts
  rw [h2, h]
theorem elemPart : Nonempty (Elem Tryz.prog 36 110 4 48) := Elem.mk' Tryz.underlying36 Tryz.infoPart rfl (by decide)
theorem part_one (x : Part) (o : Option Addr) (n c : Nat) : ∀ u ∈ Part.c x (.slice o n c), u.oneCell' = true := by
  intro u hu
  simp only [Part.c, List.mem_cons, List.not_mem_nil, or_false] at hu
  rcases hu with rfl | rfl | rfl | rfl <;> rfl



end Go.Proofs.YtiabfgebfjmplaaGreat
