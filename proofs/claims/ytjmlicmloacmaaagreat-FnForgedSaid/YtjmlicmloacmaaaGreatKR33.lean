/- What these laws need: FnFlips, FnForged: The draws of the code: a path with its topology. -/
import Derived.Test.YtjmlicmloacmaaaGreatKR16
import Derived.Test.YtjmlicmloacmaaaGreatKR20
namespace Go.Proofs.YtjmlicmloacmaaaGreat
section
open Go.ChangeShapes Go.WideShapes Go.ChangeAt Go.RowKit Go.Deep
theorem hopsN_len : ∀ (l : List Part) (m : Nat), (∀ x ∈ l, x.hops.length ≤ m) → hopsN l ≤ l.length * m
 | [], m, _ => by simp [hopsN]
 | a :: l, m, h => by
  have h1 := hopsN_len l m (fun x hx => h x (List.mem_cons_of_mem _ hx))
  have h2 := h a (by simp)
  simp only [hopsN, Part.size, List.map_cons, List.sum_cons, List.length_cons] at h1 ⊢
  rw [Nat.succ_mul]; omega
theorem pth_size {p : Pth} (h1 : p.parts.length ≤ 4) (h2 : ∀ x ∈ p.parts, x.hops.length ≤ 5) : p.size ≤ 24 := by
 have h3 := hopsN_len p.parts 5 h2
 unfold Pth.size; omega
end
end Go.Proofs.YtjmlicmloacmaaaGreat
