/- What these laws need: FnFlips, FnForwards: What is checked of hop fields, parts, paths and packets, and how a packet goes on, as plain functions. Parts as they are drawn: of segments whose hops are sealed; they verify, in both directions. -/
import Derived.Test.YtikbeiafobnblaaGreatKR15
import Derived.Test.YtikbeiafobnblaaGreatKR19
namespace Go.Proofs.YtikbeiafobnblaaGreat
section
open Go.RowKit
/-- The least expiry. -/
def leastExp : List Hop → Int
  | [] => 0
  | h :: l => l.foldl (fun m x => if x.exp < m then x.exp else m) h.exp
theorem leastF_le (now : Int) : ∀ (l : List Hop) (m : Int), (now ≤ l.foldl (fun m x => if x.exp < m then x.exp else m) m) ↔ now ≤ m ∧ ∀ x ∈ l, now ≤ x.exp
  | [], m => by simp
  | x :: l, m => by
    rw [List.foldl_cons, leastF_le now l]
    simp only [List.mem_cons, forall_eq_or_imp]
    split <;> constructor <;> rintro ⟨h1, h2⟩ <;> refine ⟨?_, ?_⟩ <;> (first | omega | exact h2 | exact h2.2 | (refine ⟨?_, ?_⟩ <;> (first | omega | exact h2)))
theorem least_in {now : Int} {l : List Hop} (h : 0 < l.length) : hopsIn now l = decide (now ≤ leastExp l) := by
  cases l with
  | nil => simp at h
  | cons x l =>
    unfold hopsIn leastExp
    rw [Bool.eq_iff_iff]
    simp only [List.all_eq_true, decide_eq_true_eq, leastF_le, List.mem_cons, forall_eq_or_imp]
end
section
open Go.RowKit
theorem makePart_len (s : Seg) (kind k : Int) : (makePart s kind k).hops.length ≤ s.hops.length := by
  unfold makePart; split
  · rw [mkPart_len]; omega
  · simp
end
end Go.Proofs.YtikbeiafobnblaaGreat
