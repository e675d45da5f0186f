/- What these laws need: FnLeases, FnParts: The draws of the code: a path with its topology. -/
import Derived.Test.YtikbeiafobnblaaKQ27
namespace Go.Proofs.Ytikbeiafobnblaa
section
open Go.ChangeShapes Go.WideShapes Go.ChangeAt Go.RowKit Go.Deep
theorem Cur.ofCode {S : Nat → Prop} {g : Nat} {v : Value} {code : List Int} {w w1 w' : World} (hr : RdS Rep.byte w v code) (h : Cur g v code w1) (c : Chg S w1 w') (hn : ¬ S g) (hx : Ext w w') (hg : w.heap.size ≤ g) : Cur g v code w' := by
 obtain ⟨⟨i, hh, hb, r⟩, hs, hu⟩ := h
 exact ⟨⟨i, hh, c.blkS hb hn, r⟩, fun w2 k => hr.ext (hx.ofCur k hg), hu⟩
theorem hopsN_len : ∀ (l : List Part) (m : Nat), (∀ x ∈ l, x.hops.length ≤ m) → hopsN l ≤ l.length * m
 | [], m, _ => by simp [hopsN]
 | a :: l, m, h => by
  have h1 := hopsN_len l m (fun x hx => h x (List.mem_cons_of_mem _ hx))
  have h2 := h a (by simp)
  simp only [hopsN, Part.size, List.map_cons, List.sum_cons, List.length_cons] at h1 ⊢
  rw [Nat.succ_mul]; omega
theorem rev_len4 {p : Pth} (h : p.parts.length ≤ 4) : (revPath p).parts.length ≤ 4 := by simpa [revPath, revParts] using h
theorem rev_len5 {p : Pth} (h : ∀ x ∈ p.parts, x.hops.length ≤ 5) : ∀ x ∈ (revPath p).parts, x.hops.length ≤ 5 := by
 intro x hx
 simp only [revPath, revParts, List.mem_reverse, List.mem_map] at hx
 obtain ⟨y, hy, rfl⟩ := hx
 simpa [revPart] using h y hy
theorem pth_size {p : Pth} (h1 : p.parts.length ≤ 4) (h2 : ∀ x ∈ p.parts, x.hops.length ≤ 5) : p.size ≤ 24 := by
 have h3 := hopsN_len p.parts 5 h2
 unfold Pth.size; omega
theorem steps_len {p : Pth} (h1 : p.parts.length ≤ 4) (h2 : ∀ x ∈ p.parts, x.hops.length ≤ 5) : (pathSteps p.parts).length ≤ 20 := by
 have h3 := hopsN_len p.parts 5 h2
 have h4 := pathSteps_len p.parts
 omega
end
end Go.Proofs.Ytikbeiafobnblaa
