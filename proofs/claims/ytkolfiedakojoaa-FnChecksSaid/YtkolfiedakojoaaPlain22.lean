/- The plain functions of paths: steps, ends, interfaces. No program in sight. No condition. -/
import Derived.Test.YtkolfiedakojoaaTyPart
import Derived.Test.YtkolfiedakojoaaTyStep
namespace Go.Proofs.Ytkolfiedakojoaa
open Go.RowKit

def isRev (k : Int) : Bool := k == 1 || k == 3
def hopIn (k : Int) (h : Hop) : Int := if isRev k then h.eg else h.ing
def hopEg (k : Int) (h : Hop) : Int := if isRev k then h.ing else h.eg
def partIn (p : Part) (i : Int) : Int := if 0 ≤ i ∧ i ≤ p.hops.length - 1 then (match p.hops[i.toNat]? with | some h => hopIn p.kind h | none => 0) else 0
def partEg (p : Part) (i : Int) : Int := if 0 ≤ i ∧ i ≤ p.hops.length - 1 then (match p.hops[i.toNat]? with | some h => hopEg p.kind h | none => 0) else 0
theorem partIn_at {p : Part} {i : Nat} (h : i < p.hops.length) : partIn p i = hopIn p.kind p.hops[i] := by
  unfold partIn; rw [if_pos (by omega)]; simp [h]
theorem partEg_at {p : Part} {i : Nat} (h : i < p.hops.length) : partEg p i = hopEg p.kind p.hops[i] := by
  unfold partEg; rw [if_pos (by omega)]; simp [h]
/-- The hop joins the last step of the part before. -/
def mergeB (m : Bool) (out : List Step) (h : Hop) : Bool := m && (match out.getLast? with | some s => s.asn == h.asn | none => false)
def stepOf (k : Int) (h : Hop) : Step := ⟨h.asn, hopIn k h, hopEg k h⟩
def stepOne (m : Bool) (k : Int) (out : List Step) (h : Hop) : List Step :=
  if mergeB m out h then (match out.getLast? with | some s => out.set (out.length - 1) ⟨s.asn, s.ing, hopEg k h⟩ | none => out) else out ++ [stepOf k h]
def hopsTo (m : Bool) (k : Int) (out : List Step) (hs : List Hop) : Nat → List Step
  | 0 => out
  | i + 1 => match hs[i]? with
    | some h => stepOne (m && i == 0) k (hopsTo m k out hs i) h
    | none => hopsTo m k out hs i
def partsTo (ps : List Part) : Nat → List Step
  | 0 => []
  | k + 1 => match ps[k]? with
    | some p => hopsTo (decide (0 < k)) p.kind (partsTo ps k) p.hops p.hops.length
    | none => partsTo ps k
def endsIn (l : List Step) : List Step := if h : 0 < l.length then l.set 0 ⟨l[0].asn, 0, l[0].eg⟩ else l
def endsEg (l : List Step) : List Step := if h : 0 < l.length then l.set (l.length - 1) ⟨l[l.length - 1].asn, l[l.length - 1].ing, 0⟩ else l
def pathSteps (ps : List Part) : List Step := endsEg (endsIn (partsTo ps ps.length))
theorem hopsTo_succ {m : Bool} {k : Int} {out : List Step} {hs : List Hop} {i : Nat} (h : i < hs.length) : hopsTo m k out hs (i + 1) = stepOne (m && i == 0) k (hopsTo m k out hs i) hs[i] := by
  simp [hopsTo, h]
theorem partsTo_succ {ps : List Part} {k : Nat} (h : k < ps.length) : partsTo ps (k + 1) = hopsTo (decide (0 < k)) ps[k].kind (partsTo ps k) ps[k].hops ps[k].hops.length := by
  simp [partsTo, h]
theorem stepOne_no {m : Bool} {k : Int} {out : List Step} {h : Hop} (hm : mergeB m out h = false) : stepOne m k out h = out ++ [stepOf k h] := by simp [stepOne, hm]
theorem mergeB_len {m : Bool} {out : List Step} {h : Hop} (hm : mergeB m out h = true) : 0 < out.length := by
  cases out with
  | nil => simp [mergeB] at hm
  | cons a l => simp
theorem getLast_at {α : Type} {out : List α} (h : 0 < out.length) : out.getLast? = some out[out.length - 1] := by
  rw [List.getLast?_eq_getElem?, List.getElem?_eq_getElem (by omega)]
theorem mergeB_at {m : Bool} {out : List Step} {h : Hop} (hl : 0 < out.length) : mergeB m out h = (m && (out[out.length - 1].asn == h.asn)) := by
  unfold mergeB; rw [getLast_at hl]
theorem mergeB_nil {m : Bool} {h : Hop} : mergeB m [] h = false := by simp [mergeB]
theorem stepOne_yes {m : Bool} {k : Int} {out : List Step} {h : Hop} (hm : mergeB m out h = true) (hn : 0 < out.length) : stepOne m k out h = out.set (out.length - 1) ⟨(out[out.length - 1]'(by omega)).asn, (out[out.length - 1]'(by omega)).ing, hopEg k h⟩ := by
  simp only [stepOne, hm, if_true]
  rw [getLast_at hn]
theorem stepOne_yes2 {m : Bool} {k : Int} {out : List Step} {h : Hop} (hm : mergeB m out h = true) (hn : 0 < out.length) : stepOne m k out h = out.take (out.length - 1) ++ [⟨h.asn, (out[out.length - 1]'(by omega)).ing, hopEg k h⟩] := by
  rw [stepOne_yes hm hn]
  have h1 : out[out.length - 1].asn = h.asn := by
    rw [mergeB_at hn] at hm
    simp only [Bool.and_eq_true, beq_iff_eq] at hm
    exact hm.2
  rw [h1]
  apply List.ext_getElem
  · simp; omega
  · intro i h1 h2
    simp only [List.length_set] at h1
    rw [List.getElem_set]
    by_cases hi : out.length - 1 = i
    · subst hi
      rw [if_pos rfl, List.getElem_append_right (by simp)]
      simp
    · rw [if_neg hi, List.getElem_append_left (by simp; omega)]
      simp
theorem stepOne_len (m : Bool) (k : Int) (out : List Step) (h : Hop) : (stepOne m k out h).length ≤ out.length + 1 := by
  cases hm : mergeB m out h
  · rw [stepOne_no hm]; simp
  · rw [stepOne_yes hm (mergeB_len hm)]; simp
theorem hopsTo_len (m : Bool) (k : Int) (out : List Step) (hs : List Hop) : ∀ i, (hopsTo m k out hs i).length ≤ out.length + i
  | 0 => Nat.le_refl _
  | i + 1 => by
    have ih := hopsTo_len m k out hs i
    unfold hopsTo
    split
    · have := stepOne_len (m && i == 0) k (hopsTo m k out hs i) (by assumption); omega
    · omega
theorem partsTo_len (ps : List Part) : ∀ k, k ≤ ps.length → (partsTo ps k).length ≤ hopsN (ps.take k)
  | 0, _ => by simp [partsTo]
  | k + 1, hk => by
    have ih := partsTo_len ps k (by omega)
    rw [partsTo_succ (by omega), hopsN_snoc (by omega)]
    have := hopsTo_len (decide (0 < k)) ps[k].kind (partsTo ps k) ps[k].hops ps[k].hops.length
    omega
theorem endsIn_len (l : List Step) : (endsIn l).length = l.length := by unfold endsIn; split <;> simp
theorem endsEg_len (l : List Step) : (endsEg l).length = l.length := by unfold endsEg; split <;> simp
theorem pathSteps_len (ps : List Part) : (pathSteps ps).length ≤ hopsN ps := by
  unfold pathSteps
  rw [endsEg_len, endsIn_len]
  have := partsTo_len ps ps.length (Nat.le_refl _)
  rwa [List.take_length] at this
def endsOf (l : List Step) : Int × Int := match l with
  | [] => (-1, -1)
  | a :: l => (a.asn, ((a :: l).getLast (by simp)).asn)
theorem endsOf_nil {l : List Step} (h : l.length = 0) : endsOf l = (-1, -1) := by
  unfold endsOf; rw [List.eq_nil_of_length_eq_zero h]
theorem endsOf_at {l : List Step} (h : 0 < l.length) : endsOf l = (l[0].asn, l[l.length - 1].asn) := by
  cases l with
  | nil => simp at h
  | cons a l => simp [endsOf, List.getLast_eq_getElem]
def ends (ps : List Part) : Int × Int := endsOf (pathSteps ps)
end Go.Proofs.Ytkolfiedakojoaa
