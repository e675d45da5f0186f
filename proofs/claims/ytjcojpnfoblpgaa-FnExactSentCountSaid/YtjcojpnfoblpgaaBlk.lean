/- Facts on single blocks: what a store leaves of a block. No condition. -/
import Derived.Test.YtjcojpnfoblpgaaApp
namespace Go.Proofs.Ytjcojpnfoblpgaa
open Go.ChangeShapes Go.WideShapes Go.ChangeAt Go.RowKit Go.Deep

theorem blk_set {w : World} {b : Nat} {arr : Array Value} {t : TypeId} {f : Nat × Nat} (h : w.heap[b]? = some (.cells arr t f)) (o : Nat) (v : Value) : (w.setCell ⟨b, o, none⟩ v).heap[b]? = some (.cells (arr.setIfInBounds o v) t f) := by
  simp [World.setCell, Array.getElem?_modify, h]
theorem blk_set_ne {w : World} {b b' : Nat} {ob : Obj} (h : w.heap[b]? = some ob) (hne : b' ≠ b) (o : Nat) (v : Value) : (w.setCell ⟨b', o, none⟩ v).heap[b]? = some ob := by
  simp [World.setCell, Array.getElem?_modify, hne, h]
theorem fr_of {w : World} {b : Nat} {arr : Array Value} {t : TypeId} (h : w.heap[b]? = some (.cells arr t (0, 0))) : ∀ o, w.frozen? ⟨b, o, none⟩ = false := fun o => blk_frozen h o
theorem al2 (w : World) (o1 o2 : Obj) : ((w.alloc o1).alloc o2).heap[w.heap.size]? = some o1 ∧ ((w.alloc o1).alloc o2).heap[w.heap.size + 1]? = some o2 :=
  ⟨Ext.block ((Ext.refl _).alloc o2) (blk_new w o1), blk_new2 w o1 o2⟩
theorem al3 (w : World) (o1 o2 o3 : Obj) : (((w.alloc o1).alloc o2).alloc o3).heap[w.heap.size]? = some o1 ∧ (((w.alloc o1).alloc o2).alloc o3).heap[w.heap.size + 1]? = some o2 ∧ (((w.alloc o1).alloc o2).alloc o3).heap[w.heap.size + 1 + 1]? = some o3 := by
  have h := al2 w o1 o2
  refine ⟨Ext.block ((Ext.refl _).alloc o3) h.1, Ext.block ((Ext.refl _).alloc o3) h.2, ?_⟩
  have := blk_new ((w.alloc o1).alloc o2) o3
  rwa [nblk_alloc, nblk_alloc] at this
theorem ext3 (w : World) (o1 o2 o3 : Obj) : Ext w (((w.alloc o1).alloc o2).alloc o3) := (((Ext.refl w).alloc o1).alloc o2).alloc o3
theorem ext2 (w : World) (o1 o2 : Obj) : Ext w ((w.alloc o1).alloc o2) := ((Ext.refl w).alloc o1).alloc o2
theorem OwnF.set {α : Type} {n : Nat} {f : α → List Value} {base : Nat} {e : TypeId} {w : World} {v : Value} {l : List α} (h : OwnF f n base e w v l) {p : Addr} (hp : p.block < base) (u : Value) : OwnF f n base e (w.setCell p u) v l := by
  obtain ⟨h1, h2⟩ := h
  refine ⟨h1, ?_⟩
  rcases h2 with h2 | ⟨g, cap, cur, hv, hb, hg, r⟩
  · exact .inl h2
  · refine .inr ⟨g, cap, cur, hv, hb, ?_, r⟩
    obtain ⟨pb, po, ps⟩ := p
    have hne : pb ≠ g := by simp only at hp; omega
    simp [World.setCell, Array.getElem?_modify, hne, hg]

end Go.Proofs.Ytjcojpnfoblpgaa
