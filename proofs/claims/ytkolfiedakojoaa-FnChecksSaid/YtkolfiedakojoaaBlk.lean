/- Facts on single blocks: what a store leaves of a block. No condition. -/
import Derived.Test.YtkolfiedakojoaaApp
namespace Go.Proofs.Ytkolfiedakojoaa
open Go.ChangeShapes Go.WideShapes Go.ChangeAt Go.RowKit Go.Deep

theorem blk_set {w : World} {b : Nat} {arr : Array Value} {t : TypeId} {f : Nat × Nat} (h : w.heap[b]? = some (.cells arr t f)) (o : Nat) (v : Value) : (w.setCell ⟨b, o, none⟩ v).heap[b]? = some (.cells (arr.setIfInBounds o v) t f) := by
  simp [World.setCell, Array.getElem?_modify, h]
theorem blk_set_ne {w : World} {b b' : Nat} {ob : Obj} (h : w.heap[b]? = some ob) (hne : b' ≠ b) (o : Nat) (v : Value) : (w.setCell ⟨b', o, none⟩ v).heap[b]? = some ob := by
  simp [World.setCell, Array.getElem?_modify, hne, h]
theorem fr_of {w : World} {b : Nat} {arr : Array Value} {t : TypeId} (h : w.heap[b]? = some (.cells arr t (0, 0))) : ∀ o, w.frozen? ⟨b, o, none⟩ = false := fun o => blk_frozen h o
theorem al2 (w : World) (o1 o2 : Obj) : ((w.alloc o1).alloc o2).heap[w.heap.size]? = some o1 ∧ ((w.alloc o1).alloc o2).heap[w.heap.size + 1]? = some o2 :=
  ⟨Ext.block ((Ext.refl _).alloc o2) (blk_new w o1), blk_new2 w o1 o2⟩
theorem al3 (w : World) (o1 o2 o3 : Obj) : (((w.alloc o1).alloc o2).alloc o3).heap[w.heap.size]? = some o1 ∧ (((w.alloc o1).alloc o2).alloc o3).heap[w.heap.size + 1]? = some o2 ∧ (((w.alloc o1).alloc o2).alloc o3).heap[w.heap.size + 1 + 1]? = some o3 := by
  have h := al2 w o1 o2
  refine ⟨Ext.block ((Ext.refl _).alloc o3) h.1, Ext.block ((Ext.refl _).alloc o3) h.2, ?_⟩
  have := blk_new ((w.alloc o1).alloc o2) o3
  rwa [nblk_alloc, nblk_alloc] at this
theorem ext3 (w : World) (o1 o2 o3 : Obj) : Ext w (((w.alloc o1).alloc o2).alloc o3) := (((Ext.refl w).alloc o1).alloc o2).alloc o3
theorem ext2 (w : World) (o1 o2 : Obj) : Ext w ((w.alloc o1).alloc o2) := ((Ext.refl w).alloc o1).alloc o2
theorem OwnF.set {α : Type} {n : Nat} {f : α → List Value} {base : Nat} {e : TypeId} {w : World} {v : Value} {l : List α} (h : OwnF f n base e w v l) {p : Addr} (hp : p.block < base) (u : Value) : OwnF f n base e (w.setCell p u) v l := by
  obtain ⟨h1, h2⟩ := h
  refine ⟨h1, ?_⟩
  rcases h2 with h2 | ⟨g, cap, cur, hv, hb, hg, r⟩
  · exact .inl h2
  · refine .inr ⟨g, cap, cur, hv, hb, ?_, r⟩
    obtain ⟨pb, po, ps⟩ := p
    have hne : pb ≠ g := by simp only at hp; omega
    simp [World.setCell, Array.getElem?_modify, hne, hg]

theorem blk_set3 {w : World} {b : Nat} {x0 x1 x2 : Value} {t : TypeId} {f : Nat × Nat} (h : w.heap[b]? = some (.cells #[x0, x1, x2] t f)) (y0 y1 y2 : Value) :
    (((w.setCell ⟨b, 0, none⟩ y0).setCell ⟨b, 1, none⟩ y1).setCell ⟨b, 2, none⟩ y2).heap[b]? = some (.cells #[y0, y1, y2] t f) := by
  have := blk_set (blk_set (blk_set h 0 y0) 1 y1) 2 y2
  simpa using this
theorem ext_set3 {a w : World} (h : Ext a w) {b : Nat} (hb : a.heap.size ≤ b) (y0 y1 y2 : Value) : Ext a (((w.setCell ⟨b, 0, none⟩ y0).setCell ⟨b, 1, none⟩ y1).setCell ⟨b, 2, none⟩ y2) :=
  ((h.setCell hb _).setCell hb _).setCell hb _
/-- Rows of different element types never share a block. -/
theorem OwnF.ne {α : Type} {n : Nat} {f : α → List Value} {base : Nat} {e : TypeId} {w : World} {v : Value} {l : List α} (h : OwnF f n base e w v l) {b : Nat} {cs : Array Value} {t : TypeId} {fr : Nat × Nat} (hb : w.heap[b]? = some (.cells cs t fr)) (hne : e ≠ t) : v.ownBlock ≠ some b := by
  rcases h.2 with ⟨rfl, _⟩ | ⟨g', cap, cur, rfl, _, hh, _⟩
  · simp [Value.ownBlock]
  · intro he
    have : g' = b := by simpa [Value.ownBlock] using he
    subst this
    rw [hh] at hb
    injection hb with hb
    injection hb with _ ht
    exact hne ht
theorem own_ne {α : Type} {n : Nat} {f : α → List Value} {base : Nat} {e : TypeId} {w : World} {v : Value} {l : List α} {b : Nat} {cs : Array Value} {t : TypeId} {fr : Nat × Nat} (h : OwnF f n base e w v l) (hb : w.heap[b]? = some (.cells cs t fr)) (hne : e ≠ t) {w' : World} (hg : w.grownBy w' v.ownBlock) : w'.heap[b]? = some (.cells cs t fr) :=
  (hg.block b (blk_lt hb) (fun e => h.ne hb hne e.symm)).trans hb
/-- A row of another element type is as it was. -/
theorem OwnF.keptT {α β : Type} {n m : Nat} {f : α → List Value} {f' : β → List Value} {base base' : Nat} {e e' : TypeId} {w w' : World} {v v' : Value} {l : List α} {l' : List β} (h' : OwnF f' m base' e' w v' l') (h : OwnF f n base e w v l) (hne : e ≠ e') (hg : w.grownBy w' v.ownBlock) : OwnF f' m base' e' w' v' l' := by
  obtain ⟨h1, h2⟩ := h'
  refine ⟨h1, ?_⟩
  rcases h2 with h2 | ⟨g, cap, cur, rfl, hb, hg', r⟩
  · exact .inl h2
  · exact .inr ⟨g, cap, cur, rfl, hb, own_ne h hg' hne hg, r⟩
/-- The row, cut at its end. -/
theorem OwnF.trim {α : Type} {n : Nat} {f : α → List Value} (hf : ∀ a, (f a).length = n) {base : Nat} {e : TypeId} {w : World} {g m cap : Nat} {l : List α} (h : OwnF f n base e w (.slice (some ⟨g, 0, none⟩) m cap) l) (k : Nat) (hk : k ≤ l.length) : OwnF f n base e w (.slice (some ⟨g, 0, none⟩) k cap) (l.take k) := by
  obtain rfl := h.len
  obtain ⟨h1, h2⟩ := h
  have hl : (l.take k).length = k := by simp; omega
  refine ⟨by rw [flatMap_len hf], ?_⟩
  rcases h2 with ⟨h2, _⟩ | ⟨g', cap', cur, hv, hb, hg, hc1, hc2, hc3, ht⟩
  · cases h2
  · cases hv
    refine .inr ⟨g, cap, cur, by rw [hl], hb, hg, by rw [hl]; omega, hc2, hc3, ?_⟩
    have e1 : (l.take k).flatMap f = (l.flatMap f).take (k * n) := by
      have h3 : l.flatMap f = (l.take k).flatMap f ++ (l.drop k).flatMap f := by rw [← List.flatMap_append, List.take_append_drop]
      rw [h3, List.take_left' (by rw [flatMap_len hf, hl])]
    rw [e1, hl, ← ht, List.take_take, Nat.min_eq_left (Nat.mul_le_mul_right _ hk)]

end Go.Proofs.Ytkolfiedakojoaa
