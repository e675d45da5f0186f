/- Appending one datum to a row of the call's own. No condition but the bound on the row's length. -/
import Derived.Test.YtkolfiedakojoaaOpen
import Derived.Deep.RegionHeld3
import Derived.Deep.AppendLies
import Derived.Laws.AppendOwnNone
namespace Go.Proofs.Ytkolfiedakojoaa
open Go.ChangeShapes Go.WideShapes Go.ChangeAt Go.RowKit Go.Deep

/-- What is known of an element type: its zero, its cells, its bytes. -/
structure Elem (P : Program) (t e : TypeId) (n bytes : Nat) where
  i : TypeInfo
  z : Value
  ht : P.underlying t = some (.slice e)
  hi : P.info? e = some i
  hz : i.zero = some z
  hsize : i.size = n
  hby : i.bytes = bytes
  hzs : z.cells.size = n
  hpos : 0 < n

theorem Elem.mk' {P : Program} {t e : TypeId} {n bytes : Nat} {z : Value} (ht : P.underlying t = some (.slice e)) (h : (P.info? e).map (fun i => (i.zero, i.size, i.bytes)) = some (some z, n, bytes)) (hzs : z.cells.size = n) (hpos : 0 < n) : Nonempty (Elem P t e n bytes) := by
  obtain ⟨i, hi, hz, h1, h2⟩ := info_parts h
  exact ⟨⟨i, z, ht, hi, hz, h1, h2, hzs, hpos⟩⟩

section
variable {P : Program} {w : World} {ops : Array Oper} {rest : List Oper} {o : Oper} {a : Act} {Q : Exit → Act → World → Prop}

/-- append(out, x): x lies in a block of its own. -/
theorem app1 {t e : TypeId} {n bytes : Nat} (E : Elem P t e n bytes) {α : Type} {f : α → List Value} (hf : ∀ a, (f a).length = n) (h1 : ∀ b, ∀ u ∈ f b, u.oneCell' = true) (hgd : o.guard = none) (s x : Operand)
    (ho : o.op = .call { callee := .builtin .append, args := #[s, x], argTypes := #[t, t] }) {base : Nat} {v : Value} {l : List α} (b : α) (hs : a.eval s = v) (hown : OwnF f n base e w v l)
    {g c : Nat} (hx : a.eval x = .slice (some ⟨g, 0, none⟩) 1 c) (hnews : ∀ j u, (f b)[j]? = some u → w.cell? ⟨g, j, none⟩ = some u)
    (hl : (l.length + 1) * bytes ≤ 140737488355328) (hm : l.length + 1 ≤ maxLen) (hbase : base ≤ w.heap.size)
    (h : ∀ v' w', OwnF f n base e w' v' (l ++ [b]) → w.grownBy w' v.ownBlock → wpList P ops Q rest (a.put o.dst v') w') : wpList P ops Q (o :: rest) a w := by
  refine wpList_append_own w hgd s x t ho base e E.i E.z n bytes E.ht E.hi E.hz E.hsize E.hby E.hzs E.hpos v l.length (l.flatMap f) hs hown ⟨g, 0, none⟩ 1 c (f b) hx (by rw [hf, Nat.one_mul]) ?_ (h1 b) hm hl hbase ?_
  · intro j u hu
    have hadd : (⟨g, 0, none⟩ : Addr).add j = ⟨g, j, none⟩ := by unfold Addr.add; split <;> simp_all
    rw [hadd]
    exact hnews j u hu
  · intro v' w' ho' hg _
    refine h v' w' ?_ hg
    unfold OwnF
    rw [List.length_append, List.flatMap_append, List.flatMap_cons, List.flatMap_nil, List.append_nil]
    exact ho'
/-- append(out, src...): src reads as a list. -/
theorem appS {t e : TypeId} {n bytes : Nat} (E : Elem P t e n bytes) {α : Type} {f : α → List Value} (hf : ∀ a, (f a).length = n) (h1 : ∀ b, ∀ u ∈ f b, u.oneCell' = true) (hgd : o.guard = none) (s x : Operand)
    (ho : o.op = .call { callee := .builtin .append, args := #[s, x], argTypes := #[t, t] }) {base : Nat} {v vs : Value} {l : List α} (src : List α) (hs : a.eval s = v) (hown : OwnF f n base e w v l)
    (hx : a.eval x = vs) (hsrc : RdS (Rep.flat n f hf) w vs src)
    (hl : (l.length + src.length) * bytes ≤ 140737488355328) (hm : l.length + src.length ≤ maxLen) (hbase : base ≤ w.heap.size)
    (h : ∀ v' w', OwnF f n base e w' v' (l ++ src) → w.grownBy w' v.ownBlock → wpList P ops Q rest (a.put o.dst v') w') : wpList P ops Q (o :: rest) a w := by
  obtain ⟨oa, cap, rfl, hc1, hc2, hn0, hel⟩ := hsrc
  cases oa with
  | none =>
    have hnil : src = [] := by
      cases src with
      | nil => rfl
      | cons b src => obtain ⟨_, _, _, he, _⟩ := hel 0 (by simp); cases he
    subst hnil
    obtain rfl := hn0 rfl
    refine wpList_append_own_none hgd s x t ho base e E.i n E.ht E.hi v l.length (l.flatMap f) hs hown hx ?_
    refine h v w ?_ (World.grownBy.refl _ _)
    rw [List.append_nil]
    exact hown
  | some ad =>
    refine wpList_append_own w hgd s x t ho base e E.i E.z n bytes E.ht E.hi E.hz E.hsize E.hby E.hzs E.hpos v l.length (l.flatMap f) hs hown ad src.length cap (src.flatMap f) hx (flatMap_len hf src) ?_ ?_ hm hl hbase ?_
    · intro j u hu
      have hjl : j < src.length * n := by rw [← flatMap_len hf src]; exact (List.getElem?_eq_some_iff.1 hu).1
      have hk : j / n < src.length := by rw [Nat.div_lt_iff_lt_mul E.hpos]; exact hjl
      have hr := Nat.mod_lt j E.hpos
      obtain ⟨b, off, cs, hb, hcell, rfl⟩ := hel (j / n) hk
      cases hb
      have hfm := flatMap_at hf src (j / n) hk (j % n) hr
      have hdm : j / n * n + j % n = j := by rw [Nat.mul_comm]; exact Nat.div_add_mod j n
      rw [hdm, hu] at hfm
      have := hcell (j % n) u hfm.symm
      have hadd : (⟨b, off, none⟩ : Addr).add j = ⟨b, off + j, none⟩ := by unfold Addr.add; split <;> simp_all
      rw [hadd]
      rw [← this]
      show _ = w.cell? ⟨b, off + j / n * n + j % n, none⟩
      rw [Nat.add_assoc, hdm]
    · intro u hu
      obtain ⟨b, _, hb⟩ := List.mem_flatMap.1 hu
      exact h1 b u hb
    · intro v' w' ho' hg _
      refine h v' w' ?_ hg
      unfold OwnF
      rw [List.length_append, List.flatMap_append]
      exact ho'

/-- The same inside a region that draws its order. -/
theorem stepApp1 {t e : TypeId} {n bytes : Nat} (E : Elem P t e n bytes) {α : Type} {f : α → List Value} (hf : ∀ a, (f a).length = n) (h1 : ∀ b, ∀ u ∈ f b, u.oneCell' = true) {K : Act → World → Prop} {Ep : Prop} (hgd : o.guard = none) (s x : Operand)
    (ho : o.op = .call { callee := .builtin .append, args := #[s, x], argTypes := #[t, t] }) {base : Nat} {v : Value} {l : List α} (b : α) (hs : a.eval s = v) (hown : OwnF f n base e w v l)
    {g c : Nat} (hx : a.eval x = .slice (some ⟨g, 0, none⟩) 1 c) (hnews : ∀ j u, (f b)[j]? = some u → w.cell? ⟨g, j, none⟩ = some u)
    (hl : (l.length + 1) * bytes ≤ 140737488355328) (hm : l.length + 1 ≤ maxLen) (hbase : base ≤ w.heap.size)
    (h : ∀ v' w', OwnF f n base e w' v' (l ++ [b]) → w.grownBy w' v.ownBlock → K (a.put o.dst v') w') :
    if Region.wanted o (yielded ops a.tmps) = true then Oper.wp P o a w K Q else Ep := by
  have hw : Region.wanted o (yielded ops a.tmps) = true := by simp [Region.wanted, hgd]
  rw [if_pos hw]
  refine wp_append_own w s x t ho base e E.i E.z n bytes E.ht E.hi E.hz E.hsize E.hby E.hzs E.hpos v l.length (l.flatMap f) hs hown ⟨g, 0, none⟩ 1 c (f b) hx (by rw [hf, Nat.one_mul]) ?_ (h1 b) hm hl hbase ?_
  · intro j u hu
    have hadd : (⟨g, 0, none⟩ : Addr).add j = ⟨g, j, none⟩ := by unfold Addr.add; split <;> simp_all
    rw [hadd]
    exact hnews j u hu
  · intro v' w' ho' hg _
    refine h v' w' ?_ hg
    unfold OwnF
    rw [List.length_append, List.flatMap_append, List.flatMap_cons, List.flatMap_nil, List.append_nil]
    exact ho'
end

theorem Ext.app {a b c : World} {α : Type} {f : α → List Value} {n base : Nat} {e : TypeId} {v : Value} {l : List α} (h : Ext a b) (hg : b.grownBy c v.ownBlock) {b' : World} (ho : OwnF f n base e b' v l) (hb : a.heap.size ≤ base) : Ext a c :=
  h.grown hg fun k hk => Nat.le_trans hb (OwnF.block ho k hk).1

theorem OwnF.nil {α : Type} (f : α → List Value) (n base : Nat) (e : TypeId) (w : World) : OwnF f n base e w (.slice none 0 0) [] := World.ownsRow_nil w base e n

/-- '[]T{}': an empty row of its own. -/
theorem OwnF.empty {α : Type} (f : α → List Value) (n base : Nat) (e : TypeId) (w : World) (hb : base ≤ w.heap.size) : OwnF f n base e (w.alloc (.cells #[] e)) (.slice (some ⟨w.heap.size, 0, none⟩) 0 0) [] :=
  World.ownsRow_made w #[] 0 hb (by decide) (by simp)

theorem flatMap_set1 {α : Type} {n : Nat} {f : α → List Value} (hf : ∀ a, (f a).length = n) : ∀ (l : List α) (k : Nat) (hk : k < l.length) (j : Nat) (_ : j < n) (u : Value) (x : α), f x = (f l[k]).set j u → (l.flatMap f).set (k * n + j) u = (l.set k x).flatMap f
  | [], k, hk, _, _, _, _, _ => absurd hk (by simp)
  | a :: l, 0, _, j, hj, u, x, hx => by
    simp only [List.getElem_cons_zero] at hx
    rw [List.flatMap_cons, Nat.zero_mul, Nat.zero_add, List.set_cons_zero, List.flatMap_cons, hx, List.set_append_left _ _ (by rw [hf]; exact hj)]
  | a :: l, k + 1, hk, j, hj, u, x, hx => by
    have := flatMap_set1 hf l k (by simpa using hk) j hj u x (by simpa using hx)
    rw [List.flatMap_cons, List.set_cons_succ, List.flatMap_cons, ← this, List.set_append_right _ _ (by rw [hf, Nat.succ_mul]; omega), hf, show (k + 1) * n + j - n = k * n + j from by rw [Nat.succ_mul]; omega]

/-- One cell of one datum of the call's own row is written. -/
theorem OwnF.put1 {α : Type} {n : Nat} {f : α → List Value} (hf : ∀ a, (f a).length = n) {base : Nat} {e : TypeId} {w : World} {g m cap : Nat} {l : List α} (h : OwnF f n base e w (.slice (some ⟨g, 0, none⟩) m cap) l) (k : Nat) (hk : k < l.length) (j : Nat) (hj : j < n) (u : Value) (x : α)
    (hx : f x = (f l[k]).set j u) : OwnF f n base e (w.setCell ⟨g, k * n + j, none⟩ u) (.slice (some ⟨g, 0, none⟩) m cap) (l.set k x) ∧ w.grownBy (w.setCell ⟨g, k * n + j, none⟩ u) (some g) := by
  obtain rfl := h.len
  obtain ⟨h0, g0⟩ := World.ownsRow.stored h (k * n + j) u
  rw [flatMap_set1 hf l k hk j hj u x hx] at h0
  refine ⟨?_, g0⟩
  unfold OwnF
  rw [List.length_set]
  exact h0

/-- v[lo:hi] reads as the part of the list. -/
theorem RdS.part {α : Type} {r : Rep α} {w : World} {b off m cap : Nat} {l : List α} (h : RdS r w (.slice (some ⟨b, off, none⟩) m cap) l) (lo hi : Nat) (h1 : lo ≤ hi) (h2 : hi ≤ l.length) :
    RdS r w (.slice (some ⟨b, off + lo * r.cells, none⟩) (hi - lo) (cap - lo)) ((l.take hi).drop lo) := by
  obtain ⟨o, cap', hv, c1, c2, hn, hel⟩ := h
  cases hv
  have hlen : ((l.take hi).drop lo).length = hi - lo := by simp; omega
  refine ⟨_, _, by rw [hlen], by rw [hlen]; omega, by omega, (fun e => by cases e), fun i hi' => ?_⟩
  rw [hlen] at hi'
  obtain ⟨b', off', cs, hb, hc, hr⟩ := hel (lo + i) (by omega)
  cases hb
  refine ⟨b, off + lo * r.cells, cs, rfl, fun j u hj => ?_, ?_⟩
  · have := hc j u hj
    rw [Nat.add_mul, ← Nat.add_assoc] at this
    exact this
  · simpa using hr

theorem OwnF.emptyAt {α : Type} {f : α → List Value} {n base : Nat} {e : TypeId} {w : World} {g : Nat} (hg : g = w.heap.size) (hb : base ≤ g) : OwnF f n base e (w.alloc (.cells #[] e)) (.slice (some ⟨g, 0, none⟩) 0 0) [] := by
  subst hg
  exact OwnF.empty f n base e w hb

theorem OwnF.capLe {α : Type} {f : α → List Value} {n base : Nat} {e : TypeId} {w : World} {g m cap : Nat} {l : List α} (h : OwnF f n base e w (.slice (some ⟨g, 0, none⟩) m cap) l) : m ≤ cap ∧ g < w.heap.size := by
  rcases h.2 with ⟨h', _⟩ | ⟨g', cap', cur, h', _, hg, hc, _⟩
  · cases h'
  · cases h'; exact ⟨hc, (Array.getElem?_eq_some_iff.1 hg).1⟩
theorem blk_lt {w : World} {b : Nat} {o : Obj} (h : w.heap[b]? = some o) : b < w.heap.size := (Array.getElem?_eq_some_iff.1 h).1

theorem RdS.capLe {α : Type} {r : Rep α} {w : World} {o : Option Addr} {m cap : Nat} {l : List α} (h : RdS r w (.slice o m cap) l) : l.length ≤ cap := by
  obtain ⟨o', cap', hv, c1, _⟩ := h
  cases hv
  exact c1

/-- A literal row. -/
theorem OwnF.lit {α : Type} {n : Nat} {f : α → List Value} (hf : ∀ a, (f a).length = n) (base : Nat) (e : TypeId) (w : World) (l : List α) (hb : base ≤ w.heap.size) (hm : l.length ≤ maxLen) :
    OwnF f n base e (w.alloc (.cells (l.flatMap f).toArray e)) (.slice (some ⟨w.heap.size, 0, none⟩) l.length l.length) l := by
  have := World.ownsRow_lit (base := base) (e := e) (size := n) w (l.flatMap f).toArray l.length hb hm (by simpa using flatMap_len hf l)
  exact this

theorem blk_list {w : World} {b : Nat} (cs : List Value) {t : TypeId} {f : Nat × Nat} (h : w.heap[b]? = some (.cells cs.toArray t f)) : ∀ j u, cs[j]? = some u → w.cell? ⟨b, j, none⟩ = some u := by
  intro j u hu
  rw [blk_cell h]
  simpa using hu

theorem blk_new2 (w : World) (o1 o2 : Obj) : ((w.alloc o1).alloc o2).heap[w.heap.size + 1]? = some o2 := by
  have := blk_new (w.alloc o1) o2
  rwa [nblk_alloc] at this

theorem filter_pos {α : Type} (p : α → Bool) {l : List α} {k : Nat} (hk : k < l.length) (h : p l[k] = true) : (l.take k).filter p ++ [l[k]] = (l.take (k + 1)).filter p := by
  rw [List.take_succ_eq_append_getElem hk, List.filter_append, List.filter_cons_of_pos h, List.filter_nil]
theorem filter_neg {α : Type} (p : α → Bool) {l : List α} {k : Nat} (hk : k < l.length) (h : ¬ p l[k] = true) : (l.take k).filter p = (l.take (k + 1)).filter p := by
  rw [List.take_succ_eq_append_getElem hk, List.filter_append, List.filter_cons_of_neg h, List.filter_nil, List.append_nil]

/-- A world that extends w. -/
structure ExtW (w : World) where
  w' : World
  h : Ext w w'

instance (w : World) : Nonempty (ExtW w) := ⟨⟨w, Ext.refl w⟩⟩

/-- A region that draws its order, whose operations only read and whose callees only make new memory: one walk in the order of the text, in every world that extends the one at its head. -/
theorem wp_region_ext {P : Program} {id : Nat} {Q : Exit → Act → World → Prop} {a : Act} {w : World} {l : List Oper} (hm : P.follows .mixedOrders = true) (hB : Region.lexB .any l.toArray = true)
    (h : wpQuiet P l.toArray (fun w1 => ∃ x : ExtW w, w1 = x.w') (fun a' => ∀ w1, (∃ x : ExtW w, w1 = x.w') → Q .normal a' w1) l a) : (Code.region id l.toArray true).wp P Q a w :=
  wp_region_quiet (C := fun w1 => ∃ x : ExtW w, w1 = x.w') hm hB ⟨⟨_, (Ext.refl w).drew⟩, rfl⟩ (by simpa using h)

theorem Calls.ext_of {P : Program} {f : FuncId} {args : Array Value} {w : World} {x : ExtW w} {v : Value}
    (h : Calls P f args x.w' fun e w1 => e = .returned v ∧ Ext x.w' w1) : Calls P f args x.w' fun e w1 => e = .returned v ∧ ∃ y : ExtW w, w1 = y.w' :=
  h.mono fun _ w1 ⟨he, hx⟩ => ⟨he, ⟨w1, x.h.trans hx⟩, rfl⟩
theorem Calls.ext_same {P : Program} {f : FuncId} {args : Array Value} {w : World} {x : ExtW w} {v : Value}
    (h : Calls P f args x.w' fun e w1 => e = .returned v ∧ x.w' = w1) : Calls P f args x.w' fun e w1 => e = .returned v ∧ ∃ y : ExtW w, w1 = y.w' :=
  h.mono fun _ _ ⟨he, hx⟩ => ⟨he, x, hx.symm⟩

theorem ExtW.cell {w : World} {p : Addr} {v : Value} (h : w.cell? p = some v) : ∀ x : ExtW w, x.w'.cell? p = some v := fun x => x.h.cell h

end Go.Proofs.Ytkolfiedakojoaa
