/- Contracts of turning parts around, program and reference. No condition but the bounds that each theorem names. -/
import Derived.Test.YtiabfgebfjmplaaGreatW22
import Derived.Test.YtiabfgebfjmplaaGreatW30
import Derived.Test.YtiabfgebfjmplaaGreatW03
namespace Go.Proofs.YtiabfgebfjmplaaGreat
open Go.ChangeShapes Go.WideShapes Go.ChangeAt Go.RowKit Go.Deep

def betaTo (x : Part) : Nat → Int
  | 0 => x.beta
  | k + 1 => match x.hops[k]? with
    | some h => if isRev x.kind then subMod (betaTo x k) h.mac else addMod (betaTo x k) h.mac
    | none => betaTo x k
theorem betaTo_succ {x : Part} {k : Nat} (h : k < x.hops.length) : betaTo x (k + 1) = if isRev x.kind then subMod (betaTo x k) x.hops[k].mac else addMod (betaTo x k) x.hops[k].mac := by simp [betaTo, h]
def betaAfter (x : Part) (i : Int) : Int := if 0 ≤ i ∧ i ≤ x.hops.length then betaTo x i.toNat else 0
def revPart (x : Part) : Part := ⟨revKind x.kind, x.ts, betaAfter x x.hops.length, x.hops.reverse⟩
theorem elemHop : Nonempty (Elem Tryz.prog 108 146 5 40) := Elem.mk' Tryz.underlying108 Tryz.infoHop rfl (by decide)
theorem rev_drop {α : Type} {l : List α} {k : Nat} (hk : k < l.length) : (l.drop (k + 1)).reverse ++ [l[k]] = (l.drop k).reverse := by
  rw [List.drop_eq_getElem_cons hk, List.reverse_cons]
theorem RdS.upto {α : Type} {r : Rep α} {w : World} {o : Option Addr} {m cap : Nat} {l : List α} (h : RdS r w (.slice o m cap) l) (k : Nat) (hk : k ≤ l.length) : RdS r w (.slice o k cap) (l.take k) := by
  obtain ⟨o', cap', hv, h1, h2, hn, h3⟩ := h
  cases hv
  have hl : (l.take k).length = k := by simp; omega
  refine ⟨o, cap, by rw [hl], by omega, h2, hn, fun i hi => ?_⟩
  obtain ⟨b, off, cs, a1, a2, a3⟩ := h3 i (by omega)
  exact ⟨b, off, cs, a1, a2, by simpa using a3⟩





end Go.Proofs.YtiabfgebfjmplaaGreat
