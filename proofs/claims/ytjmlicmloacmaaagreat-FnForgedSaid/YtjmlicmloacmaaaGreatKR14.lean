/- What these laws need: FnFlips, FnForged, FnHopsPassed, FnReplies: The draw of a path with a thing turned, and of the code. -/
import Derived.Deep.CutBlock
import Derived.Test.YtjmlicmloacmaaaGreatKR13
namespace Go.Proofs.YtjmlicmloacmaaaGreat
section
open Go.ChangeShapes Go.WideShapes Go.ChangeAt Go.RowKit Go.Deep
theorem set1 {w : World} {b : Nat} {x0 : Value} {t : TypeId} (h : w.heap[b]? = some (.cells #[x0] t (0, 0))) (y0 : Value) :
  ∃ w5, w5 = w.setCell ⟨b, 0, none⟩ y0 ∧ w5.heap[b]? = some (.cells #[y0] t (0, 0)) ∧ Chg (at1 b) w w5 :=
 ⟨_, rfl, by simpa using blk_set h 0 y0, Chg.setC (S := at1 b) (p := ⟨b, 0, none⟩) (Chg.refl _ _) rfl y0⟩
theorem part_block {lo hi : Nat} {w : World} {gp m cap : Nat} {l : List Part} (h : Part.own.own (rng lo hi) w (.slice (some ⟨gp, 0, none⟩) m cap) l) : lo ≤ gp ∧ gp < hi := by
 obtain ⟨qs, rfl, ho, hS, _⟩ := h
 exact hS gp rfl
/-- The row of a part's hops. -/
theorem part_hops {lo hi : Nat} {w : World} {gp m cap : Nat} {l : List Part} (h : Part.own.own (rng lo hi) w (.slice (some ⟨gp, 0, none⟩) m cap) l) (k : Nat) (hk : k < l.length) (h0 : 0 < l[k].hops.length) :
  ∃ (gh ch : Nat), (∀ j v, (Part.c l[k] (.slice (some ⟨gh, 0, none⟩) l[k].hops.length ch))[j]? = some v → w.cell? ⟨gp, k * 4 + j, none⟩ = some v) ∧ OwnF Hop.f 5 0 44 w (.slice (some ⟨gh, 0, none⟩) l[k].hops.length ch) l[k].hops ∧ lo ≤ gh ∧ gh < hi ∧ gh ≠ gp := by
 obtain ⟨hv, T, hc, ho, hT, _⟩ := nest_at h k hk
 obtain ⟨gh, ch, rfl, _, hg⟩ := OwnF.some_shape ho.1 h0
 obtain ⟨h1, h2, h3⟩ := hT gh (ho.2 gh rfl)
 exact ⟨gh, ch, hc, ho.1, h1.1, h1.2, h2⟩
end
end Go.Proofs.YtjmlicmloacmaaaGreat
