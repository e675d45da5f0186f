/- Marking and holding parts and paths: the contracts of the laws' helper functions. No condition but the bounds that each theorem names. -/
import Derived.Test.YtkolfiedakojoaaTyPart
import Derived.Deep.LoopGhost
namespace Go.Proofs.Ytkolfiedakojoaa
open Go.ChangeShapes Go.WideShapes Go.ChangeAt Go.RowKit Go.Deep

section
variable {α β : Type} {n : Nat} {c : α → Value → List Value} {hc : ∀ a v, (c a v).length = n} {sub : α → List β} {e : TypeId} {I : Own β}
/-- Plain cells of the kth element are written; its inner slice stays. -/
theorem nest_row {S : Nat → Prop} {w w2 : World} {g m cap : Nat} {l : List α} (h : (Own.nest n c hc sub e I).own S w (.slice (some ⟨g, 0, none⟩) m cap) l) (k : Nat) (hk : k < l.length) (x : α) (hsub : sub x = sub l[k]) (hg : w.grownBy w2 (some g))
    (hrow : ∀ (qs : List (Cap α)) (_ : qs.map (·.dat) = l) (hk' : k < qs.length), OwnF (capF c) n 0 e w (.slice (some ⟨g, 0, none⟩) m cap) qs → OwnF (capF c) n 0 e w2 (.slice (some ⟨g, 0, none⟩) m cap) (qs.set k ⟨x, qs[k].val, qs[k].set⟩)) :
    (Own.nest n c hc sub e I).own S w2 (.slice (some ⟨g, 0, none⟩) m cap) (l.set k x) := by
  obtain ⟨qs, rfl, ho, hS, hq, hd⟩ := h
  have hk' : k < qs.length := by simpa using hk
  have hch : Chg (fun b => b = g) w w2 := Chg.ofGrown hg (fun k hk => by cases hk; rfl)
  have hne : ∀ b, (Value.slice (some ⟨g, 0, none⟩) m cap).ownBlock ≠ some b → ¬ b = g := fun b h e => h (by rw [e]; rfl)
  refine ⟨qs.set k ⟨x, qs[k].val, qs[k].set⟩, by simp [List.map_set], hrow qs rfl hk' ho, hS, fun q hqm => ?_, fun i j hi hj hne' b hbi => ?_⟩
  · obtain ⟨i, hi, rfl⟩ := List.getElem_of_mem hqm
    have hi' : i < qs.length := by simpa using hi
    rw [List.getElem_set]
    by_cases hki : k = i
    · subst hki
      simp only [if_pos]
      obtain ⟨a1, a2⟩ := hq qs[k] (List.getElem_mem _)
      refine ⟨?_, fun b hb => ⟨(a2 b hb).1, (a2 b hb).2.1, Nat.lt_of_lt_of_le (a2 b hb).2.2 hch.size⟩⟩
      have := I.kept a1 hch (fun b hb => hne b (a2 b hb).2.1)
      rw [hsub]
      simpa using this
    · rw [if_neg hki]
      obtain ⟨a1, a2⟩ := hq qs[i] (List.getElem_mem _)
      exact ⟨I.kept a1 hch (fun b hb => hne b (a2 b hb).2.1), fun b hb => ⟨(a2 b hb).1, (a2 b hb).2.1, Nat.lt_of_lt_of_le (a2 b hb).2.2 hch.size⟩⟩
  · have hi' : i < qs.length := by simpa using hi
    have hj' : j < qs.length := by simpa using hj
    rw [List.getElem_set] at hbi ⊢
    have s1 : qs[i].set b := by
      by_cases e1 : k = i
      · subst e1; simpa using hbi
      · rw [if_neg e1] at hbi; exact hbi
    have s2 := hd i j hi' hj' hne' b s1
    by_cases e2 : k = j
    · subst e2; simpa using s2
    · rw [if_neg e2]; exact s2
end

theorem Chg.blk {lo hi : Nat} {w w' : World} (c : Chg (rng lo hi) w w') {b : Nat} {o : Obj} (h : w.heap[b]? = some o) (hb : b < lo ∨ hi ≤ b) : w'.heap[b]? = some o :=
  (c.block b (blk_lt h) (fun hs => by rcases hb with hb | hb <;> have := hs.1 <;> have := hs.2 <;> omega)).trans h
theorem rng_apart {a b c d : Nat} (h : b ≤ c ∨ d ≤ a) : ∀ x, rng a b x → ¬ rng c d x := by
  intro x h1 h2
  have := h1.1; have := h1.2; have := h2.1; have := h2.2
  omega

def markPart (k : Int) (x : Part) : Part := ⟨k, k + 1, k + 1 + 1, markL Hop.mk' 5 (k + 1 + 1 + 1) x.hops.length⟩
def markParts (k : Int) : List Part → List Part
  | [] => []
  | x :: l => markPart k x :: markParts (k + 3 + 5 * x.hops.length) l
def markN (l : List Part) : Int := 3 * l.length + 5 * hopsN l
theorem markParts_len (k : Int) (l : List Part) : (markParts k l).length = l.length := by
  induction l generalizing k with
  | nil => rfl
  | cons x l ih => simp [markParts, ih]
theorem hopsN_cons (x : Part) (l : List Part) : hopsN (x :: l) = x.hops.length + hopsN l := by simp [hopsN, Part.size]
theorem markParts_at (k : Int) (l : List Part) (j : Nat) (hj : j < l.length) : (markParts k l)[j]'(by rw [markParts_len]; exact hj) = markPart (k + 3 * j + 5 * hopsN (l.take j)) l[j] := by
  induction l generalizing k j with
  | nil => simp at hj
  | cons x l ih =>
    cases j with
    | zero => simp [markParts, hopsN]
    | succ j =>
      have h := ih (k + 3 + 5 * x.hops.length) j (by simpa using hj)
      have e1 : k + 3 + 5 * (x.hops.length : Int) + 3 * (j : Int) + 5 * ((hopsN (l.take j) : Nat) : Int) = k + 3 * ((j + 1 : Nat) : Int) + 5 * ((hopsN ((x :: l).take (j + 1)) : Nat) : Int) := by
        rw [List.take_succ_cons, hopsN_cons]; omega
      rw [e1] at h
      simpa [markParts] using h
theorem markParts_hops (k : Int) (l : List Part) : hopsN (markParts k l) = hopsN l := by
  induction l generalizing k with
  | nil => rfl
  | cons x l ih => rw [markParts, hopsN_cons, hopsN_cons, ih]; simp [markPart, markL]
theorem take_snocM {α : Type} {xs ms : List α} {j : Nat} (h : xs.take j = ms.take j) (hj : j < xs.length) (hm : j < ms.length) (y : α) (hy : ms[j] = y) : (xs.set j y).take (j + 1) = ms.take (j + 1) := by
  rw [List.take_succ_eq_append_getElem (by simpa using hj), List.take_succ_eq_append_getElem hm, List.take_set_of_le (Nat.le_refl _), h]
  simp [hy]
theorem drop_snocM {α : Type} {xs l : List α} {j : Nat} (h : xs.drop j = l.drop j) (y : α) : (xs.set j y).drop (j + 1) = l.drop (j + 1) := by
  rw [List.drop_set_of_lt (by omega), ← List.drop_drop, h, List.drop_drop]
theorem drop_getM {α : Type} {xs l : List α} {j : Nat} (h : xs.drop j = l.drop j) (h1 : j < xs.length) (h2 : j < l.length) : xs[j] = l[j] := by
  rw [List.drop_eq_getElem_cons h1, List.drop_eq_getElem_cons h2] at h
  exact (List.cons.inj h).1
def Hop.ownS : Own Hop := Own.flat Hop.f 5 Hop.flen 73
end Go.Proofs.Ytkolfiedakojoaa
