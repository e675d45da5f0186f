/- Readings of values as data: how a row of cells reads as a datum, and a slice value as a list of data. No condition. -/
import Derived.Test.YtkolfiedakojoaaBase
namespace Go.Proofs.Ytkolfiedakojoaa
open Go.ChangeShapes Go.WideShapes Go.ChangeAt Go.RowKit Go.Deep

theorem Ext.grown {a b c : World} {row : Option Nat} (h : Ext a b) (hg : b.grownBy c row) (hr : ∀ k, row = some k → a.heap.size ≤ k) : Ext a c := Below.grown h hg h.size hr
theorem Ext.grownNone {a b c : World} (h : Ext a b) (hg : b.grownBy c none) : Ext a c := h.grown hg (fun _ e => by cases e)

/-- How a row of cells reads as a datum. -/
structure Rep (α : Type) where
  cells : Nat
  rd : World → List Value → α → Prop
  len : ∀ {w : World} {cs : List Value} {a : α}, rd w cs a → cs.length = cells
  ext : ∀ {w w' : World} {cs : List Value} {a : α}, Ext w w' → rd w cs a → rd w' cs a

/-- A slice value that reads as a list. -/
def RdS {α : Type} (r : Rep α) (w : World) (v : Value) (l : List α) : Prop :=
  ∃ (o : Option Addr) (cap : Nat), v = .slice o l.length cap ∧ l.length ≤ cap ∧ cap ≤ maxLen ∧ (o = none → cap = 0) ∧
    ∀ (i : Nat) (h : i < l.length), ∃ (b off : Nat) (cs : List Value), o = some ⟨b, off, none⟩ ∧
      (∀ j u, cs[j]? = some u → w.cell? ⟨b, off + i * r.cells + j, none⟩ = some u) ∧ r.rd w cs l[i]

theorem RdS.ext {α : Type} {r : Rep α} {w w' : World} {v : Value} {l : List α} (h : RdS r w v l) (e : Ext w w') : RdS r w' v l := by
  obtain ⟨o, cap, hv, h1, h2, hn, h3⟩ := h
  refine ⟨o, cap, hv, h1, h2, hn, fun i hi => ?_⟩
  obtain ⟨b, off, cs, ho, hc, hr⟩ := h3 i hi
  exact ⟨b, off, cs, ho, fun j u hj => e.cell (hc j u hj), r.ext e hr⟩

theorem RdS.nil {α : Type} (r : Rep α) (w : World) : RdS r w (.slice none 0 0) [] :=
  ⟨none, 0, rfl, Nat.le_refl _, by decide, fun _ => rfl, fun i h => absurd h (by simp)⟩

theorem RdS.small {α : Type} {r : Rep α} {w : World} {v : Value} {l : List α} (h : RdS r w v l) : l.length ≤ 9223372036854775807 := by
  obtain ⟨o, cap, hv, h1, h2, hn, h3⟩ := h
  unfold maxLen at h2; omega

/-- A slice's own cell. -/
def Rep.slice {α : Type} (r : Rep α) : Rep (List α) where
  cells := 1
  rd w cs l := ∃ v, cs = [v] ∧ RdS r w v l
  len := by rintro w cs a ⟨v, rfl, _⟩; rfl
  ext := by rintro w w' cs a e ⟨v, rfl, h⟩; exact ⟨v, rfl, h.ext e⟩

/-- A datum whose cells are plain values. -/
def Rep.flat {α : Type} (n : Nat) (f : α → List Value) (hf : ∀ a, (f a).length = n) : Rep α where
  cells := n
  rd _ cs a := cs = f a
  len := by rintro w cs a rfl; exact hf a
  ext := by rintro w w' cs a _ rfl; rfl

def Rep.int : Rep Int := Rep.flat 1 (fun n => [.int .i64 n]) (fun _ => rfl)
def Rep.bool : Rep Bool := Rep.flat 1 (fun b => [.bool b]) (fun _ => rfl)
def Rep.byte : Rep Int := Rep.flat 1 (fun n => [.int .u8 n]) (fun _ => rfl)

theorem RdS.at_flat {α : Type} {n : Nat} {f : α → List Value} {hf : ∀ a, (f a).length = n} {w : World} {o : Option Addr} {m cap : Nat} {l : List α} (h : RdS (Rep.flat n f hf) w (.slice o m cap) l) (k : Nat) (hk : k < l.length) :
    ∃ b off, o = some ⟨b, off, none⟩ ∧ ∀ j u, (f l[k])[j]? = some u → w.cell? ⟨b, off + k * n + j, none⟩ = some u := by
  obtain ⟨o', cap', hv, h1, h2, hn, h3⟩ := h
  obtain ⟨b, off, cs, ho, hc, rfl⟩ := h3 k hk
  cases hv
  exact ⟨b, off, ho, hc⟩

theorem RdS.shape {α : Type} {r : Rep α} {w : World} {v : Value} {l : List α} (h : RdS r w v l) : ∃ o cap, v = .slice o l.length cap ∧ l.length ≤ 9223372036854775807 := by
  have := h.small
  obtain ⟨o, cap, hv, h1, h2, hn, h3⟩ := h
  exact ⟨o, cap, hv, this⟩

theorem flatMap_at {α : Type} {n : Nat} {f : α → List Value} (hf : ∀ a, (f a).length = n) : ∀ (l : List α) (k : Nat) (hk : k < l.length) (j : Nat), j < n → (l.flatMap f)[k * n + j]? = (f l[k])[j]?
  | [], k, hk, _, _ => absurd hk (by simp)
  | a :: l, 0, _, j, hj => by
    rw [List.flatMap_cons, Nat.zero_mul, Nat.zero_add, List.getElem?_append_left (by rw [hf]; exact hj)]
    rfl
  | a :: l, k + 1, hk, j, hj => by
    rw [List.flatMap_cons, List.getElem?_append_right (by rw [hf, Nat.succ_mul]; omega), hf, show (k + 1) * n + j - n = k * n + j from by rw [Nat.succ_mul]; omega]
    exact flatMap_at hf l k (by simpa using hk) j hj

theorem flatMap_len {α : Type} {n : Nat} {f : α → List Value} (hf : ∀ a, (f a).length = n) (l : List α) : (l.flatMap f).length = l.length * n := by
  induction l with
  | nil => simp
  | cons a l ih => rw [List.flatMap_cons, List.length_append, hf, ih, List.length_cons, Nat.succ_mul]; omega

/-- The call's own row of flat data. -/
def OwnF {α : Type} (f : α → List Value) (n : Nat) (base : Nat) (e : TypeId) (w : World) (v : Value) (l : List α) : Prop := w.ownsRow base e n v l.length (l.flatMap f)

theorem OwnF.rd {α : Type} {n : Nat} {f : α → List Value} {hf : ∀ a, (f a).length = n} {base : Nat} {e : TypeId} {w : World} {v : Value} {l : List α} (h : OwnF f n base e w v l) : RdS (Rep.flat n f hf) w v l := by
  obtain ⟨h1, h2⟩ := h
  rcases h2 with ⟨rfl, hn⟩ | ⟨g, cap, cur, rfl, hb, hg, hnc, hcm, hcs, ht⟩
  · obtain rfl := List.eq_nil_of_length_eq_zero hn
    exact RdS.nil _ _
  · refine ⟨some ⟨g, 0, none⟩, cap, rfl, hnc, hcm, (fun e => by cases e), fun i hi => ⟨g, 0, f l[i], rfl, fun j u hu => ?_, rfl⟩⟩
    show w.cell? ⟨g, 0 + i * n + j, none⟩ = _
    have hj : j < n := by have := (List.getElem?_eq_some_iff.1 hu).1; rw [hf] at this; exact this
    have hx : i * n + j < l.length * n := by
      have : (i + 1) * n ≤ l.length * n := Nat.mul_le_mul_right _ hi
      rw [Nat.succ_mul] at this; omega
    have := flatMap_at hf l i hi j hj
    rw [hu, ← ht, List.getElem?_take, if_pos hx] at this
    rw [Nat.zero_add, blk_cell hg]
    simpa using this

theorem OwnF.ext {α : Type} {n : Nat} {f : α → List Value} {base : Nat} {e : TypeId} {w w' : World} {v : Value} {l : List α} (h : OwnF f n base e w v l) (x : Ext w w') : OwnF f n base e w' v l := by
  obtain ⟨h1, h2⟩ := h
  refine ⟨h1, ?_⟩
  rcases h2 with h2 | ⟨g, cap, cur, hv, hb, hg, r⟩
  · exact .inl h2
  · exact .inr ⟨g, cap, cur, hv, hb, x.block hg, r⟩

theorem OwnF.mono {α : Type} {n : Nat} {f : α → List Value} {base base' : Nat} {e : TypeId} {w : World} {v : Value} {l : List α} (h : OwnF f n base e w v l) (x : base' ≤ base) : OwnF f n base' e w v l := by
  obtain ⟨h1, h2⟩ := h
  refine ⟨h1, ?_⟩
  rcases h2 with h2 | ⟨g, cap, cur, hv, hb, r⟩
  · exact .inl h2
  · exact .inr ⟨g, cap, cur, hv, Nat.le_trans x hb, r⟩

/-- Another block was written. -/
theorem OwnF.kept {α : Type} {n : Nat} {f : α → List Value} {base : Nat} {e : TypeId} {w w' : World} {v : Value} {l : List α} {row : Option Nat} (h : OwnF f n base e w v l) (hg : w.grownBy w' row) (hr : ∀ k, row = some k → k < base) : OwnF f n base e w' v l := by
  refine World.ownsRow.kept h hg ?_
  cases hv : v.ownBlock with
  | none => exact .inl rfl
  | some k =>
    right
    rintro rfl
    have := (h.lt k hv).1
    have := hr k rfl
    omega

theorem OwnF.block {α : Type} {n : Nat} {f : α → List Value} {base : Nat} {e : TypeId} {w : World} {v : Value} {l : List α} (h : OwnF f n base e w v l) : ∀ k, v.ownBlock = some k → base ≤ k ∧ k < w.heap.size := World.ownsRow.lt h

/-- The zero row of a make, as data. -/
theorem madeCells_flat {α : Type} {n : Nat} {f : α → List Value} (hf : ∀ a, (f a).length = n) (hn : 0 < n) (a : α) (m : Nat) : (madeCells (f a).toArray (m * n)).toList = (List.replicate m a).flatMap f := by
  apply List.ext_getElem?
  intro j
  by_cases hj : j < m * n
  · have hk : j / n < m := by rw [Nat.div_lt_iff_lt_mul hn]; exact hj
    have hr := Nat.mod_lt j hn
    have h1 := flatMap_at hf (List.replicate m a) (j / n) (by simpa using hk) (j % n) hr
    rw [show j / n * n + j % n = j from by rw [Nat.mul_comm]; exact Nat.div_add_mod j n] at h1
    rw [h1]
    simp only [List.getElem_replicate]
    simp [madeCells, hj, hf, hr, Array.getElem!_eq_getD, Array.getD]
  · rw [List.getElem?_eq_none (by simpa [madeCells] using Nat.le_of_not_lt hj), List.getElem?_eq_none (by rw [flatMap_len hf]; simpa using Nat.le_of_not_lt hj)]

theorem OwnF.some_shape {α : Type} {n : Nat} {f : α → List Value} {base : Nat} {e : TypeId} {w : World} {v : Value} {l : List α} (h : OwnF f n base e w v l) (hl : 0 < l.length) :
    ∃ g cap, v = .slice (some ⟨g, 0, none⟩) l.length cap ∧ base ≤ g ∧ g < w.heap.size := by
  rcases h.2 with ⟨rfl, hn⟩ | ⟨g, cap, cur, rfl, hb, hg, hnc, hcm, hcs, ht⟩
  · omega
  · exact ⟨g, cap, rfl, hb, (Array.getElem?_eq_some_iff.1 hg).1⟩

theorem take_set_snoc {α : Type} {xs l : List α} {k : Nat} (h : xs.take k = l.take k) (hx : xs.length = l.length) (hk : k < l.length) : (xs.set k l[k]).take (k + 1) = l.take (k + 1) := by
  rw [List.take_succ_eq_append_getElem (by simpa [hx] using hk), List.take_succ_eq_append_getElem hk, List.take_set_of_le (Nat.le_refl _), h]
  simp

theorem OwnF.cells_flat {α : Type} {n : Nat} {f : α → List Value} (hf : ∀ a, (f a).length = n) {base : Nat} {e : TypeId} {w : World} {g m cap : Nat} {l : List α} (h : OwnF f n base e w (.slice (some ⟨g, 0, none⟩) m cap) l) (k : Nat) (hk : k < l.length) :
    ∀ j u, (f l[k])[j]? = some u → w.cell? ⟨g, k * n + j, none⟩ = some u := by
  obtain ⟨b, off, ho, hc⟩ := RdS.at_flat (OwnF.rd (hf := hf) h) k hk
  cases ho
  simpa using hc
theorem OwnF.free {α : Type} {n : Nat} {f : α → List Value} {base : Nat} {e : TypeId} {w : World} {g m cap : Nat} {l : List α} (h : OwnF f n base e w (.slice (some ⟨g, 0, none⟩) m cap) l) (j : Nat) : w.frozen? ⟨g, j, none⟩ = false := by
  rcases h.2 with ⟨h', _⟩ | ⟨g', cap', cur, h', _, hg, _⟩
  · simp at h'
  · cases h'
    exact blk_frozen hg j
theorem OwnF.len {α : Type} {n : Nat} {f : α → List Value} {base : Nat} {e : TypeId} {w : World} {o : Option Addr} {m cap : Nat} {l : List α} (h : OwnF f n base e w (.slice o m cap) l) : m = l.length := by
  rcases h.2 with ⟨h', hn⟩ | ⟨g', cap', cur, h', _, hg, _⟩
  · cases h'; exact hn.symm
  · cases h'; rfl

theorem take_snoc2 {α : Type} {a b : List α} {k : Nat} (h : a.take k = b.take k) (ha : k < a.length) (hb : k < b.length) (he : a[k] = b[k]) : a.take (k + 1) = b.take (k + 1) := by
  rw [List.take_succ_eq_append_getElem ha, List.take_succ_eq_append_getElem hb, h, he]

/-- What is left of a size after a slice of n elements. -/
def szL (left : Int) (n : Nat) : Int := if left - n < 0 then -1 else left - n

/-- Marked data: each has the numbers behind those of the one before. -/
def markL {α : Type} (mk : Int → α) (n : Nat) (k : Int) (m : Nat) : List α := (List.range m).map fun (i : Nat) => mk (k + n * (i : Int))
theorem markL_len {α : Type} (mk : Int → α) (n : Nat) (k : Int) (m : Nat) : (markL mk n k m).length = m := by simp [markL]
theorem markL_at {α : Type} (mk : Int → α) (n : Nat) (k : Int) (m j : Nat) (h : j < (markL mk n k m).length) : (markL mk n k m)[j] = mk (k + n * j) := by simp [markL]
theorem mark_snoc {α : Type} {mk : Int → α} {n : Nat} {k : Int} {j : Nat} {xs : List α} (h : xs.take j = markL mk n k j) (hj : j < xs.length) : (xs.set j (mk (k + n * j))).take (j + 1) = markL mk n k (j + 1) := by
  rw [List.take_succ_eq_append_getElem (by simpa using hj), List.take_set_of_le (Nat.le_refl _), h]
  simp [markL, List.range_succ]

theorem nbne {α : Type} [BEq α] [LawfulBEq α] [DecidableEq α] (a b : α) : (!(a != b)) = decide (a = b) := by
  by_cases h : a = b <;> simp [h, bne]
theorem ret_bool {a b : Bool} (h : a = b) : Ending.returned (.bool a) = .returned (.bool b) := by rw [h]
theorem ret_int {k : IntKind} {a b : Int} (h : a = b) : Ending.returned (.int k a) = .returned (.int k b) := by rw [h]

end Go.Proofs.Ytkolfiedakojoaa
