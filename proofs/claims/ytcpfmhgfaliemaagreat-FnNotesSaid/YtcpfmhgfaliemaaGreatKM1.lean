/- What these laws need: FnNotes: The base of all walks over this seat: what a law owes to its statement, the readings of slices, and small facts on worlds. Readings of values as data: how a row of cells reads as a datum, and a slice value as a list of data. From the row's reading of an argument to data: integers, bools, structs, slices, to any depth. Appending one datum to a row of the call's own. Facts on single blocks: what a store leaves of a block. -/
import Derived.Test.YtcpfmhgfaliemaaGreatRows
import Derived.WalkKit
import Derived.WalkSpells
import Derived.WalkLawsBesides
import Derived.ProofKit
import Derived.OpenShut
import Derived.Lib.Hide
import Derived.Deep.Slices
import Derived.Deep.Heap
import Derived.Lib.SmallJoins
import Derived.Deep.QuietTactic
import Derived.BigQuiet
import Derived.StillTailTactics
import Derived.Deep.RegionHeld3
import Derived.Deep.AppendLies
import Derived.Laws.AppendOwnNone
namespace Go.Proofs.YtcpfmhgfaliemaaGreat
section
open Go.ChangeShapes Go.WideShapes Go.ChangeAt Go.RowKit Go.Deep
theorem own_knob : ownKnob Tryz.prog.godebug = none := by kernel_rfl
theorem laid_out : laidOutB Tryz.prog = true := by kernel_rfl
section
variable {H : Type} {enc : TypeId × Value → H} {P : Program}
theorem trodAll_below (hl : laidOutB P = true) {W W' : World} (hb : Below W.heap.size W W') (sp : Nat → Bool) :
  ∀ {ts : List TypeId} {vs : List Value} {ds : List (DataW H)} {ps : List MemPlace}, (∀ t ∈ ts, P.readableRec t = true ∧ t < P.types.size) →
   DataW.TrodAll enc P W 0 (fun _ => true) true ts vs ds ps → (∀ x ∈ ps, x.block < W.heap.size) → (∀ x ∈ ps, sp x.block = true) → DataW.TrodAll enc P W' 0 sp true ts vs ds ps
 | [], _, _, _, _, h, _, _ => by
  obtain ⟨rfl, rfl, rfl⟩ := trodAll_nil h; exact trodAll_mk0
 | t :: ts, vs, ds, ps, hr, h, hlt, hsp => by
  obtain ⟨v, vs', d, ds', p, q, rfl, rfl, rfl, h1, h2⟩ := trodAll_cons h; refine trodAll_cons_mk (WideElems.Trod_stays hl (hr t (by simp)).1 (hr t (by simp)).2 h1 (fun x hx => hb.same (hlt x (by simp [hx]))) (fun x hx => hsp x (by simp [hx]))) ?_; exact trodAll_below hl hb sp (fun t ht => hr t (by simp [ht])) h2 (fun x hx => hlt x (by simp [hx])) (fun x hx => hsp x (by simp [hx]))
theorem post_law {f : Func} {s : ChangeSpec} {apart fresh handsOn again : Bool} {W W' : World} {args : Array Value} {ds gs : List (DataW H)} {before : List MemPlace} {tb : TypeId}
  (hl : laidOutB P = true) (hpar : ∀ t ∈ f.params.toList, P.readableRec t = true ∧ t < P.types.size) (hrt : f.resultTypes = #[tb]) (htb : P.underlying tb = some .bool)
  (hv : s.vars = []) (hfn : ∀ ds' : List (DataW H), ds'.length = f.params.toList.length → s.fn H ds' = { results := [.lit (.bool true)], args := ds' })
  (hW : DataW.Whole enc P f.params.toList s.vars apart W args.toList ds gs before) (hb : Below W.heap.size W W') :
  s.post enc P f apart fresh handsOn again W args (.bool true) W' := by
 have hlt : ∀ p ∈ before, p.block < W.heap.size := fun p hp => hW.lt p hp
 have hold : ∀ p ∈ before, (fun b => decide (b < W.heap.size)) p.block = true := fun p hp => by simpa using hlt p hp
 have hW' := hW; obtain ⟨pa, q, hA, hV, rfl, hz, hn⟩ := hW'; rw [hv] at hV; obtain ⟨rfl, rfl⟩ := trodVars_none hV
 have hlen : ds.length = f.params.toList.length := by
  clear hW hz hn hlt hold hV hpar hfn; generalize f.params.toList = ts at hA; generalize args.toList = vs at hA
  induction ts generalizing vs ds pa with
  | nil => obtain ⟨rfl, rfl, rfl⟩ := trodAll_nil hA; rfl
  | cons t ts ih =>
   obtain ⟨v, vs', d, ds', p, q, rfl, rfl, rfl, h1, h2⟩ := trodAll_cons hA
   simp [ih _ _ h2]
 have hfn' := hfn ds hlen
 have hres : ∀ (b : Nat) (sp : Nat → Bool) (hd : Bool), DataW.TrodAll enc P W' b sp hd f.resultTypes.toList ((Value.bool true).resultList f.resultTypes.size) [.lit (.bool true)] [] := by
  intro b sp hd; rw [hrt]; exact trodAll_mk1 (shut_bool htb _)
 have hvar : ∀ sp, DataW.TrodVars enc P W' sp s.vars [] [] := fun sp => by rw [hv]; rfl
 refine ⟨ds, [], pa ++ [], [], pa, [], hW, ?_, ?_, ?_, World.keptBut_mono (fun p hp => ⟨hp, ?_⟩) (hb.frame (· ∈ pa ++ [])), fun _ => ⟨?_, ?_⟩⟩
 ·
  rw [List.append_nil, hfn']; exact hres _ _ _
 ·
  rw [List.append_nil, hfn']; exact trodAll_below hl hb _ hpar hA (fun x hx => hlt x (by simpa using hx)) (fun x hx => hold x (by simpa using hx))
 ·
  rw [List.append_nil, hfn']; exact hvar _
 ·
  exact Or.inr (Or.inl (by simpa using hp))
 ·
  exact ok_one (by rw [hrt]) rfl (okWide_bool_mk htb _)
 ·
  refine ⟨_, _, ([] ++ pa) ++ [], ⟨[] ++ pa, [], trodAll_append (trodAll_below hl hb _ hpar hA (fun x hx => hlt x (by simpa using hx)) (fun _ _ => rfl)) (hres _ _ _), hvar _, rfl, ?_, ?_⟩, ?_⟩
  ·
   intro b off hp; have hin : MemPlace.cell b off ∈ pa ++ [] := by simpa using hp
   rw [hb.frozen (hlt _ hin)]; exact hz b off hin
  ·
   intro ha; have := hn ha
   simpa using this
  ·
   intro p hp _
   simpa using hp
end
theorem bcell {W w1 : World} (hb : Below W.heap.size W w1) : (∀ b o, b < W.heap.size → w1.cell? ⟨b, o, none⟩ = W.cell? ⟨b, o, none⟩) ∧ (∀ b o, b < W.heap.size → w1.frozen? ⟨b, o, none⟩ = W.frozen? ⟨b, o, none⟩) :=
 ⟨fun b o h => hb.cell (p := ⟨b, o, none⟩) h, fun b o h => hb.frozen (p := ⟨b, o, none⟩) h⟩
def Ext (a b : World) : Prop := Below a.heap.size a b
theorem Ext.below {a b : World} (h : Ext a b) : Below a.heap.size a b := h
theorem Ext.size {a b : World} (h : Ext a b) : a.heap.size ≤ b.heap.size := h.below.size
theorem Ext.refl (a : World) : Ext a a := Below.refl _ _
theorem Ext.trans {a b c : World} (h : Ext a b) (k : Ext b c) : Ext a c := Below.trans h (Below.mono k h.size)
theorem Ext.t {a b c : World} (h : Ext a b) (k : Ext b c) : Ext a c := h.trans k
theorem Ext.drew {a b : World} (h : Ext a b) : Ext a b.drew := Below.drew h
theorem Ext.drewN {a b : World} (h : Ext a b) (n : Nat) : Ext a (b.drewN n) := ⟨h.os, h.tape, h.output, h.size, h.block⟩
theorem Ext.alloc {a b : World} (h : Ext a b) (o : Obj) : Ext a (b.alloc o) := Below.alloc h h.size o
theorem Ext.setCell {a b : World} (h : Ext a b) {p : Addr} (hp : a.heap.size ≤ p.block) (u : Value) : Ext a (b.setCell p u) := Below.setCell h hp u
theorem Ext.cell {a b : World} (h : Ext a b) {p : Addr} {v : Value} (hc : a.cell? p = some v) : b.cell? p = some v :=
 (Below.cell h (World.block_lt_of_cell? a p hc)).trans hc
theorem Ext.block {a b : World} (h : Ext a b) {k : Nat} {o : Obj} (hc : a.heap[k]? = some o) : b.heap[k]? = some o :=
 (Below.block h k (Array.getElem?_eq_some_iff.1 hc).1).trans hc
theorem ext_cells {W w1 : World} (hb : Ext W w1) : (∀ b o, b < W.heap.size → w1.cell? ⟨b, o, none⟩ = W.cell? ⟨b, o, none⟩) ∧ (∀ b o, b < W.heap.size → w1.frozen? ⟨b, o, none⟩ = W.frozen? ⟨b, o, none⟩) :=
 ⟨fun b o h => hb.below.cell (p := ⟨b, o, none⟩) h, fun b o h => hb.below.frozen (p := ⟨b, o, none⟩) h⟩
theorem blk_new (w : World) (o : Obj) : (w.alloc o).heap[w.heap.size]? = some o := blk_alloc_new w o
theorem blk_cell {w : World} {b : Nat} {arr : Array Value} {t : TypeId} {f : Nat × Nat} (h : w.heap[b]? = some (.cells arr t f)) (o : Nat) : w.cell? ⟨b, o, none⟩ = arr[o]? := by
 simp [World.cell?, h]
theorem blk_frozen {w : World} {b : Nat} {arr : Array Value} {t : TypeId} (h : w.heap[b]? = some (.cells arr t (0, 0))) (o : Nat) : w.frozen? ⟨b, o, none⟩ = false := by
 simp [World.frozen?, h]
theorem blk1 {w : World} {b : Nat} {x0 : Value} {t : TypeId} {f : Nat × Nat} (h : w.heap[b]? = some (.cells #[x0] t f)) : w.cell? ⟨b, 0, none⟩ = some x0 := blk_cell h 0
theorem blk3 {w : World} {b : Nat} {x0 x1 x2 : Value} {t : TypeId} {f : Nat × Nat} (h : w.heap[b]? = some (.cells #[x0, x1, x2] t f)) :
  w.cell? ⟨b, 0, none⟩ = some x0 ∧ w.cell? ⟨b, 1, none⟩ = some x1 ∧ w.cell? ⟨b, 2, none⟩ = some x2 := ⟨blk_cell h 0, blk_cell h 1, blk_cell h 2⟩
theorem blk2 {w : World} {b : Nat} {x0 x1 : Value} {t : TypeId} {f : Nat × Nat} (h : w.heap[b]? = some (.cells #[x0, x1] t f)) :
  w.cell? ⟨b, 0, none⟩ = some x0 ∧ w.cell? ⟨b, 1, none⟩ = some x1 := ⟨blk_cell h 0, blk_cell h 1⟩
theorem blk4 {w : World} {b : Nat} {x0 x1 x2 x3 : Value} {t : TypeId} {f : Nat × Nat} (h : w.heap[b]? = some (.cells #[x0, x1, x2, x3] t f)) :
  w.cell? ⟨b, 0, none⟩ = some x0 ∧ w.cell? ⟨b, 1, none⟩ = some x1 ∧ w.cell? ⟨b, 2, none⟩ = some x2 ∧ w.cell? ⟨b, 3, none⟩ = some x3 := ⟨blk_cell h 0, blk_cell h 1, blk_cell h 2, blk_cell h 3⟩
theorem blk5 {w : World} {b : Nat} {x0 x1 x2 x3 x4 : Value} {t : TypeId} {f : Nat × Nat} (h : w.heap[b]? = some (.cells #[x0, x1, x2, x3, x4] t f)) :
  w.cell? ⟨b, 0, none⟩ = some x0 ∧ w.cell? ⟨b, 1, none⟩ = some x1 ∧ w.cell? ⟨b, 2, none⟩ = some x2 ∧ w.cell? ⟨b, 3, none⟩ = some x3 ∧ w.cell? ⟨b, 4, none⟩ = some x4 :=
 ⟨blk_cell h 0, blk_cell h 1, blk_cell h 2, blk_cell h 3, blk_cell h 4⟩
end
section
open Go.ChangeShapes Go.WideShapes Go.ChangeAt Go.RowKit Go.Deep
theorem Ext.grown {a b c : World} {row : Option Nat} (h : Ext a b) (hg : b.grownBy c row) (hr : ∀ k, row = some k → a.heap.size ≤ k) : Ext a c := Below.grown h hg h.size hr
theorem Ext.grownNone {a b c : World} (h : Ext a b) (hg : b.grownBy c none) : Ext a c := h.grown hg (fun _ e => by cases e)
structure Rep (α : Type) where
  cells : Nat
  rd : World → List Value → α → Prop
  len : ∀ {w : World} {cs : List Value} {a : α}, rd w cs a → cs.length = cells
  ext : ∀ {w w' : World} {cs : List Value} {a : α}, Ext w w' → rd w cs a → rd w' cs a
def RdS {α : Type} (r : Rep α) (w : World) (v : Value) (l : List α) : Prop :=
  ∃ (o : Option Addr) (cap : Nat), v = .slice o l.length cap ∧ l.length ≤ cap ∧ cap ≤ maxLen ∧ (o = none → cap = 0) ∧
    ∀ (i : Nat) (h : i < l.length), ∃ (b off : Nat) (cs : List Value), o = some ⟨b, off, none⟩ ∧
      (∀ j u, cs[j]? = some u → w.cell? ⟨b, off + i * r.cells + j, none⟩ = some u) ∧ r.rd w cs l[i]
theorem RdS.ext {α : Type} {r : Rep α} {w w' : World} {v : Value} {l : List α} (h : RdS r w v l) (e : Ext w w') : RdS r w' v l := by
 obtain ⟨o, cap, hv, h1, h2, hn, h3⟩ := h; refine ⟨o, cap, hv, h1, h2, hn, fun i hi => ?_⟩; obtain ⟨b, off, cs, ho, hc, hr⟩ := h3 i hi; exact ⟨b, off, cs, ho, fun j u hj => e.cell (hc j u hj), r.ext e hr⟩
theorem RdS.nil {α : Type} (r : Rep α) (w : World) : RdS r w (.slice none 0 0) [] :=
 ⟨none, 0, rfl, Nat.le_refl _, by decide, fun _ => rfl, fun i h => absurd h (by simp)⟩
theorem RdS.small {α : Type} {r : Rep α} {w : World} {v : Value} {l : List α} (h : RdS r w v l) : l.length ≤ 9223372036854775807 := by
 obtain ⟨o, cap, hv, h1, h2, hn, h3⟩ := h; unfold maxLen at h2; omega
def Rep.slice {α : Type} (r : Rep α) : Rep (List α) where
  cells := 1
  rd w cs l := ∃ v, cs = [v] ∧ RdS r w v l
  len := by rintro w cs a ⟨v, rfl, _⟩; rfl
  ext := by rintro w w' cs a e ⟨v, rfl, h⟩; exact ⟨v, rfl, h.ext e⟩
def Rep.flat {α : Type} (n : Nat) (f : α → List Value) (hf : ∀ a, (f a).length = n) : Rep α where
  cells := n
  rd _ cs a := cs = f a
  len := by rintro w cs a rfl; exact hf a
  ext := by rintro w w' cs a _ rfl; rfl
def Rep.int : Rep Int := Rep.flat 1 (fun n => [.int .i64 n]) (fun _ => rfl)
def Rep.bool : Rep Bool := Rep.flat 1 (fun b => [.bool b]) (fun _ => rfl)
def Rep.byte : Rep Int := Rep.flat 1 (fun n => [.int .u8 n]) (fun _ => rfl)
theorem RdS.at_flat {α : Type} {n : Nat} {f : α → List Value} {hf : ∀ a, (f a).length = n} {w : World} {o : Option Addr} {m cap : Nat} {l : List α} (h : RdS (Rep.flat n f hf) w (.slice o m cap) l) (k : Nat) (hk : k < l.length) :
  ∃ b off, o = some ⟨b, off, none⟩ ∧ ∀ j u, (f l[k])[j]? = some u → w.cell? ⟨b, off + k * n + j, none⟩ = some u := by
 obtain ⟨o', cap', hv, h1, h2, hn, h3⟩ := h; obtain ⟨b, off, cs, ho, hc, rfl⟩ := h3 k hk
 cases hv
 exact ⟨b, off, ho, hc⟩
theorem RdS.shape {α : Type} {r : Rep α} {w : World} {v : Value} {l : List α} (h : RdS r w v l) : ∃ o cap, v = .slice o l.length cap ∧ l.length ≤ 9223372036854775807 := by
 have := h.small; obtain ⟨o, cap, hv, h1, h2, hn, h3⟩ := h; exact ⟨o, cap, hv, this⟩
theorem flatMap_at {α : Type} {n : Nat} {f : α → List Value} (hf : ∀ a, (f a).length = n) : ∀ (l : List α) (k : Nat) (hk : k < l.length) (j : Nat), j < n → (l.flatMap f)[k * n + j]? = (f l[k])[j]?
 | [], k, hk, _, _ => absurd hk (by simp)
 | a :: l, 0, _, j, hj => by
  rw [List.flatMap_cons, Nat.zero_mul, Nat.zero_add, List.getElem?_append_left (by rw [hf]; exact hj)]; rfl
 | a :: l, k + 1, hk, j, hj => by
  rw [List.flatMap_cons, List.getElem?_append_right (by rw [hf, Nat.succ_mul]; omega), hf, show (k + 1) * n + j - n = k * n + j from by rw [Nat.succ_mul]; omega]; exact flatMap_at hf l k (by simpa using hk) j hj
theorem flatMap_len {α : Type} {n : Nat} {f : α → List Value} (hf : ∀ a, (f a).length = n) (l : List α) : (l.flatMap f).length = l.length * n := by
 induction l with
 | nil => simp
 | cons a l ih => rw [List.flatMap_cons, List.length_append, hf, ih, List.length_cons, Nat.succ_mul]; omega
def OwnF {α : Type} (f : α → List Value) (n : Nat) (base : Nat) (e : TypeId) (w : World) (v : Value) (l : List α) : Prop := w.ownsRow base e n v l.length (l.flatMap f)
theorem OwnF.rd {α : Type} {n : Nat} {f : α → List Value} {hf : ∀ a, (f a).length = n} {base : Nat} {e : TypeId} {w : World} {v : Value} {l : List α} (h : OwnF f n base e w v l) : RdS (Rep.flat n f hf) w v l := by
 obtain ⟨h1, h2⟩ := h
 rcases h2 with ⟨rfl, hn⟩ | ⟨g, cap, cur, rfl, hb, hg, hnc, hcm, hcs, ht⟩
 ·
  obtain rfl := List.eq_nil_of_length_eq_zero hn; exact RdS.nil _ _
 ·
  refine ⟨some ⟨g, 0, none⟩, cap, rfl, hnc, hcm, (fun e => by cases e), fun i hi => ⟨g, 0, f l[i], rfl, fun j u hu => ?_, rfl⟩⟩
  show w.cell? ⟨g, 0 + i * n + j, none⟩ = _
  have hj : j < n := by have := (List.getElem?_eq_some_iff.1 hu).1; rw [hf] at this; exact this
  have hx : i * n + j < l.length * n := by
   have : (i + 1) * n ≤ l.length * n := Nat.mul_le_mul_right _ hi; rw [Nat.succ_mul] at this; omega
  have := flatMap_at hf l i hi j hj; rw [hu, ← ht, List.getElem?_take, if_pos hx] at this; rw [Nat.zero_add, blk_cell hg]
  simpa using this
theorem OwnF.ext {α : Type} {n : Nat} {f : α → List Value} {base : Nat} {e : TypeId} {w w' : World} {v : Value} {l : List α} (h : OwnF f n base e w v l) (x : Ext w w') : OwnF f n base e w' v l := by
 obtain ⟨h1, h2⟩ := h; refine ⟨h1, ?_⟩
 rcases h2 with h2 | ⟨g, cap, cur, hv, hb, hg, r⟩
 ·
  exact .inl h2
 ·
  exact .inr ⟨g, cap, cur, hv, hb, x.block hg, r⟩
theorem OwnF.mono {α : Type} {n : Nat} {f : α → List Value} {base base' : Nat} {e : TypeId} {w : World} {v : Value} {l : List α} (h : OwnF f n base e w v l) (x : base' ≤ base) : OwnF f n base' e w v l := by
 obtain ⟨h1, h2⟩ := h; refine ⟨h1, ?_⟩
 rcases h2 with h2 | ⟨g, cap, cur, hv, hb, r⟩
 ·
  exact .inl h2
 ·
  exact .inr ⟨g, cap, cur, hv, Nat.le_trans x hb, r⟩
theorem OwnF.kept {α : Type} {n : Nat} {f : α → List Value} {base : Nat} {e : TypeId} {w w' : World} {v : Value} {l : List α} {row : Option Nat} (h : OwnF f n base e w v l) (hg : w.grownBy w' row) (hr : ∀ k, row = some k → k < base) : OwnF f n base e w' v l := by
 refine World.ownsRow.kept h hg ?_
 cases hv : v.ownBlock with
 | none => exact .inl rfl
 | some k =>
  right
  rintro rfl; have := (h.lt k hv).1; have := hr k rfl; omega
theorem OwnF.block {α : Type} {n : Nat} {f : α → List Value} {base : Nat} {e : TypeId} {w : World} {v : Value} {l : List α} (h : OwnF f n base e w v l) : ∀ k, v.ownBlock = some k → base ≤ k ∧ k < w.heap.size := World.ownsRow.lt h
theorem madeCells_flat {α : Type} {n : Nat} {f : α → List Value} (hf : ∀ a, (f a).length = n) (hn : 0 < n) (a : α) (m : Nat) : (madeCells (f a).toArray (m * n)).toList = (List.replicate m a).flatMap f := by
 apply List.ext_getElem?
 intro j
 by_cases hj : j < m * n
 ·
  have hk : j / n < m := by rw [Nat.div_lt_iff_lt_mul hn]; exact hj
  have hr := Nat.mod_lt j hn; have h1 := flatMap_at hf (List.replicate m a) (j / n) (by simpa using hk) (j % n) hr; rw [show j / n * n + j % n = j from by rw [Nat.mul_comm]; exact Nat.div_add_mod j n] at h1; rw [h1]; simp only [List.getElem_replicate]
  simp [madeCells, hj, hf, hr, Array.getElem!_eq_getD, Array.getD]
 ·
  rw [List.getElem?_eq_none (by simpa [madeCells] using Nat.le_of_not_lt hj), List.getElem?_eq_none (by rw [flatMap_len hf]; simpa using Nat.le_of_not_lt hj)]
theorem OwnF.some_shape {α : Type} {n : Nat} {f : α → List Value} {base : Nat} {e : TypeId} {w : World} {v : Value} {l : List α} (h : OwnF f n base e w v l) (hl : 0 < l.length) :
  ∃ g cap, v = .slice (some ⟨g, 0, none⟩) l.length cap ∧ base ≤ g ∧ g < w.heap.size := by
 rcases h.2 with ⟨rfl, hn⟩ | ⟨g, cap, cur, rfl, hb, hg, hnc, hcm, hcs, ht⟩
 ·
  omega
 ·
  exact ⟨g, cap, rfl, hb, (Array.getElem?_eq_some_iff.1 hg).1⟩
theorem take_set_snoc {α : Type} {xs l : List α} {k : Nat} (h : xs.take k = l.take k) (hx : xs.length = l.length) (hk : k < l.length) : (xs.set k l[k]).take (k + 1) = l.take (k + 1) := by
 rw [List.take_succ_eq_append_getElem (by simpa [hx] using hk), List.take_succ_eq_append_getElem hk, List.take_set_of_le (Nat.le_refl _), h]
 simp
theorem OwnF.cells_flat {α : Type} {n : Nat} {f : α → List Value} (hf : ∀ a, (f a).length = n) {base : Nat} {e : TypeId} {w : World} {g m cap : Nat} {l : List α} (h : OwnF f n base e w (.slice (some ⟨g, 0, none⟩) m cap) l) (k : Nat) (hk : k < l.length) :
  ∀ j u, (f l[k])[j]? = some u → w.cell? ⟨g, k * n + j, none⟩ = some u := by
 obtain ⟨b, off, ho, hc⟩ := RdS.at_flat (OwnF.rd (hf := hf) h) k hk
 cases ho
 simpa using hc
theorem OwnF.free {α : Type} {n : Nat} {f : α → List Value} {base : Nat} {e : TypeId} {w : World} {g m cap : Nat} {l : List α} (h : OwnF f n base e w (.slice (some ⟨g, 0, none⟩) m cap) l) (j : Nat) : w.frozen? ⟨g, j, none⟩ = false := by
 rcases h.2 with ⟨h', _⟩ | ⟨g', cap', cur, h', _, hg, _⟩
 ·
  simp at h'
 ·
  cases h'
  exact blk_frozen hg j
theorem OwnF.len {α : Type} {n : Nat} {f : α → List Value} {base : Nat} {e : TypeId} {w : World} {o : Option Addr} {m cap : Nat} {l : List α} (h : OwnF f n base e w (.slice o m cap) l) : m = l.length := by
 rcases h.2 with ⟨h', hn⟩ | ⟨g', cap', cur, h', _, hg, _⟩
 ·
  cases h'; exact hn.symm
 ·
  cases h'; rfl
theorem take_snoc2 {α : Type} {a b : List α} {k : Nat} (h : a.take k = b.take k) (ha : k < a.length) (hb : k < b.length) (he : a[k] = b[k]) : a.take (k + 1) = b.take (k + 1) := by
 rw [List.take_succ_eq_append_getElem ha, List.take_succ_eq_append_getElem hb, h, he]
def szL (left : Int) (n : Nat) : Int := if left - n < 0 then -1 else left - n
def markL {α : Type} (mk : Int → α) (n : Nat) (k : Int) (m : Nat) : List α := (List.range m).map fun (i : Nat) => mk (k + n * (i : Int))
theorem markL_len {α : Type} (mk : Int → α) (n : Nat) (k : Int) (m : Nat) : (markL mk n k m).length = m := by simp [markL]
theorem markL_at {α : Type} (mk : Int → α) (n : Nat) (k : Int) (m j : Nat) (h : j < (markL mk n k m).length) : (markL mk n k m)[j] = mk (k + n * j) := by simp [markL]
theorem mark_snoc {α : Type} {mk : Int → α} {n : Nat} {k : Int} {j : Nat} {xs : List α} (h : xs.take j = markL mk n k j) (hj : j < xs.length) : (xs.set j (mk (k + n * j))).take (j + 1) = markL mk n k (j + 1) := by
 rw [List.take_succ_eq_append_getElem (by simpa using hj), List.take_set_of_le (Nat.le_refl _), h]
 simp [markL, List.range_succ]
theorem nbne {α : Type} [BEq α] [LawfulBEq α] [DecidableEq α] (a b : α) : (!(a != b)) = decide (a = b) := by
 by_cases h : a = b <;> simp [h, bne]
theorem ret_bool {a b : Bool} (h : a = b) : Ending.returned (.bool a) = .returned (.bool b) := by rw [h]
theorem ret_int {k : IntKind} {a b : Int} (h : a = b) : Ending.returned (.int k a) = .returned (.int k b) := by rw [h]
end
section
open Go.ChangeShapes Go.WideShapes Go.ChangeAt Go.RowKit Go.Deep
def I64 (n : Int) : Prop := -9223372036854775808 ≤ n ∧ n ≤ 9223372036854775807
def U8 (n : Int) : Prop := 0 ≤ n ∧ n ≤ 255
def Opens {α : Type} (P : Program) (t : TypeId) (r : Rep α) (ok : α → Prop) : Prop :=
  ∀ {H : Type} {enc : TypeId × Value → H} {w : World} {base : Nat} {spare : Nat → Bool} {held : Bool} {fuel : Nat} {cs : List Value} {x : DataW H × List MemPlace},
    DataW.trod enc P w base spare held fuel t cs = some x → ∃ a, r.rd w cs a ∧ ok a
theorem opens_int {P : Program} {t : TypeId} (ht : P.underlying t = some (.int .i64)) : Opens P t Rep.int I64 := by
 intro H enc w base spare held fuel cs x h; obtain ⟨n, rfl, _, hw⟩ := DataW.trod_int ht h; exact ⟨n, rfl, by unfold I64; simpa [Lit.wf, IntKind.min, IntKind.max, IntKind.signed, IntKind.bits] using hw⟩
theorem opens_byte {P : Program} {t : TypeId} (ht : P.underlying t = some (.int .u8)) : Opens P t Rep.byte U8 := by
 intro H enc w base spare held fuel cs x h; obtain ⟨n, rfl, _, hw⟩ := DataW.trod_int ht h; exact ⟨n, rfl, by unfold U8; simpa [Lit.wf, IntKind.min, IntKind.max, IntKind.signed, IntKind.bits] using hw⟩
theorem opens_bool {P : Program} {t : TypeId} (ht : P.underlying t = some .bool) : Opens P t Rep.bool (fun _ => True) := by
 intro H enc w base spare held fuel cs x h; obtain ⟨b, rfl, _⟩ := DataW.trod_bool ht h; exact ⟨b, rfl, trivial⟩
theorem opens_slice {α : Type} {P : Program} {t e : TypeId} {r : Rep α} {ok : α → Prop} (ht : P.underlying t = some (.slice e)) (hc : P.cellsOf e = r.cells) (hp : 0 < r.cells) (he : Opens P e r ok) :
  Opens P t r.slice (fun l => ∀ x ∈ l, ok x) := by
 intro H enc w base spare held fuel cs x h
 rcases open_slice ht h with ⟨rfl, _⟩ | ⟨a, len, cap, m, n, D, Pl, rfl, hb, hl, hm, hmm, hx, hi⟩
 ·
  exact ⟨[], ⟨_, rfl, RdS.nil _ _⟩, by simp⟩
 ·
  have hlm : len ≤ m := by rw [hmm]; split <;> omega
  have hel : ∀ i : Fin len, ∃ (y : α) (cs' : List Value), (∀ j, j < r.cells → w.cell? ((a.add (i.val * r.cells)).add j) = cs'[j]?) ∧ r.rd w cs' y ∧ ok y := by
   intro i; obtain ⟨cs', hc', ht'⟩ := hi i (by omega); obtain ⟨y, hy, hk⟩ := he ht'; rw [hc] at hc'; exact ⟨y, cs', (World.cells?_some hc').2.2, hy, hk⟩
  have hch : ∃ F : Fin len → α, ∀ i : Fin len, ∃ cs' : List Value, (∀ j, j < r.cells → w.cell? ((a.add (i.val * r.cells)).add j) = cs'[j]?) ∧ r.rd w cs' (F i) ∧ ok (F i) := ⟨fun i => (hel i).choose, fun i => (hel i).choose_spec⟩
  obtain ⟨F, hF⟩ := hch; refine ⟨List.ofFn F, ⟨_, rfl, some a, cap, by simp, by simpa using hl, hm, (fun e => by cases e), fun i hi' => ?_⟩, ?_⟩
  ·
   have hil : i < len := by simpa using hi'
   obtain ⟨cs', hc', hr', _⟩ := hF ⟨i, hil⟩; obtain ⟨b, off, sp⟩ := a
   have hsp : sp = none := by
    have h0 : 0 < len := by omega
    obtain ⟨cs0, hc0, hr0, _⟩ := hF ⟨0, h0⟩; have h1 := hc0 0 hp; simp only [Nat.zero_mul, Addr.add, if_true] at h1; have hl0 := r.len hr0; rw [List.getElem?_eq_getElem (by omega)] at h1
    cases sp with
    | none => rfl
    | some s =>
     simp only [World.cell?] at h1
     split at h1 <;> simp at h1
   subst hsp; refine ⟨b, off, cs', rfl, fun j u hj => ?_, by simpa using hr'⟩; have hjl : j < r.cells := by rw [← r.len hr']; exact (List.getElem?_eq_some_iff.1 hj).1
   have := hc' j hjl; rw [hj] at this; rw [← this]; have hadd : ∀ (o k : Nat), (⟨b, o, none⟩ : Addr).add k = ⟨b, o + k, none⟩ := fun o k => by unfold Addr.add; split <;> simp_all
   rw [hadd, hadd]
  ·
   intro x hx; obtain ⟨i, rfl⟩ := List.mem_ofFn.1 hx; exact (hF i).choose_spec.2.2
section
variable {H : Type} {enc : TypeId × Value → H} {P : Program} {W : World} {base : Nat} {spare : Nat → Bool} {held : Bool}
theorem arg_slice {α : Type} {rc : Reach} {b : Nat} {t e : TypeId} {v : Value} {d : DataW H} {p : List MemPlace} {r : Rep α} {ok : List α → Prop} (ht : P.underlying t = some (.slice e)) (hv : Value.okWide P W rc b t v) (ho : Opens P t r.slice ok)
  (h : DataW.Trod enc P W base spare held t v d p) : ∃ l, RdS r W v l ∧ ok l := by
 obtain ⟨a, len, cap, rfl⟩ := okWide_slice ht hv; obtain ⟨fuel, hf⟩ := h; obtain ⟨l, ⟨v', hv', hr⟩, hk⟩ := ho hf
 simp [Value.cells] at hv'
 subst hv'; exact ⟨l, hr, hk⟩
theorem arg_int {rc : Reach} {b : Nat} {t : TypeId} {v : Value} {d : DataW H} {p : List MemPlace} (ht : P.underlying t = some (.int .i64)) (hv : Value.okWide P W rc b t v)
  (h : DataW.Trod enc P W base spare held t v d p) : ∃ n, v = .int .i64 n ∧ I64 n := by
 obtain ⟨n, rfl⟩ := okWide_int ht hv; obtain ⟨fuel, hf⟩ := h; obtain ⟨n', hv', hk⟩ := opens_int ht hf; simp only [Rep.int, Rep.flat, Value.cells] at hv'
 cases hv'
 exact ⟨n, rfl, hk⟩
theorem arg_bool {rc : Reach} {b : Nat} {t : TypeId} {v : Value} (ht : P.underlying t = some .bool) (hv : Value.okWide P W rc b t v) : ∃ n, v = .bool n := okWide_bool ht hv
theorem arg_struct {α : Type} {rc : Reach} {b : Nat} {t : TypeId} {fs : Array Field} {v : Value} {d : DataW H} {p : List MemPlace} {r : Rep α} {ok : α → Prop} (ht : P.underlying t = some (.struct fs)) (hv : Value.okWide P W rc b t v) (ho : Opens P t r ok)
  (h : DataW.Trod enc P W base spare held t v d p) : ∃ (cs : List Value) (a : α), v = .agg cs.toArray ∧ r.rd W cs a ∧ ok a := by
 obtain ⟨cs, rfl, _⟩ := okWide_struct ht hv; obtain ⟨fuel, hf⟩ := h; obtain ⟨a, hr, hk⟩ := ho hf; exact ⟨cs.toList, a, by simp, hr, hk⟩
end
theorem len1 {α : Type} {cs : List α} (h : cs.length = 1) : ∃ a, cs = [a] := List.length_eq_one_iff.1 h
theorem len2 {α : Type} : ∀ {cs : List α}, cs.length = 2 → ∃ a b, cs = [a, b]
 | [a, b], _ => ⟨a, b, rfl⟩
theorem len3 {α : Type} : ∀ {cs : List α}, cs.length = 3 → ∃ a b c, cs = [a, b, c]
 | [a, b, c], _ => ⟨a, b, c, rfl⟩
theorem len4 {α : Type} : ∀ {cs : List α}, cs.length = 4 → ∃ a b c d, cs = [a, b, c, d]
 | [a, b, c, d], _ => ⟨a, b, c, d, rfl⟩
theorem len5 {α : Type} : ∀ {cs : List α}, cs.length = 5 → ∃ a b c d e, cs = [a, b, c, d, e]
 | [a, b, c, d, e], _ => ⟨a, b, c, d, e, rfl⟩
end
section
open Go.ChangeShapes Go.WideShapes Go.ChangeAt Go.RowKit Go.Deep
structure Elem (P : Program) (t e : TypeId) (n bytes : Nat) where
  i : TypeInfo
  z : Value
  ht : P.underlying t = some (.slice e)
  hi : P.info? e = some i
  hz : i.zero = some z
  hsize : i.size = n
  hby : i.bytes = bytes
  hzs : z.cells.size = n
  hpos : 0 < n
theorem Elem.mk' {P : Program} {t e : TypeId} {n bytes : Nat} {z : Value} (ht : P.underlying t = some (.slice e)) (h : (P.info? e).map (fun i => (i.zero, i.size, i.bytes)) = some (some z, n, bytes)) (hzs : z.cells.size = n) (hpos : 0 < n) : Nonempty (Elem P t e n bytes) := by
 obtain ⟨i, hi, hz, h1, h2⟩ := info_parts h; exact ⟨⟨i, z, ht, hi, hz, h1, h2, hzs, hpos⟩⟩
section
variable {P : Program} {w : World} {ops : Array Oper} {rest : List Oper} {o : Oper} {a : Act} {Q : Exit → Act → World → Prop}
theorem app1 {t e : TypeId} {n bytes : Nat} (E : Elem P t e n bytes) {α : Type} {f : α → List Value} (hf : ∀ a, (f a).length = n) (h1 : ∀ b, ∀ u ∈ f b, u.oneCell' = true) (hgd : o.guard = none) (s x : Operand)
  (ho : o.op = .call { callee := .builtin .append, args := #[s, x], argTypes := #[t, t] }) {base : Nat} {v : Value} {l : List α} (b : α) (hs : a.eval s = v) (hown : OwnF f n base e w v l)
  {g c : Nat} (hx : a.eval x = .slice (some ⟨g, 0, none⟩) 1 c) (hnews : ∀ j u, (f b)[j]? = some u → w.cell? ⟨g, j, none⟩ = some u)
  (hl : (l.length + 1) * bytes ≤ 140737488355328) (hm : l.length + 1 ≤ maxLen) (hbase : base ≤ w.heap.size)
  (h : ∀ v' w', OwnF f n base e w' v' (l ++ [b]) → w.grownBy w' v.ownBlock → wpList P ops Q rest (a.put o.dst v') w') : wpList P ops Q (o :: rest) a w := by
 refine wpList_append_own w hgd s x t ho base e E.i E.z n bytes E.ht E.hi E.hz E.hsize E.hby E.hzs E.hpos v l.length (l.flatMap f) hs hown ⟨g, 0, none⟩ 1 c (f b) hx (by rw [hf, Nat.one_mul]) ?_ (h1 b) hm hl hbase ?_
 ·
  intro j u hu; have hadd : (⟨g, 0, none⟩ : Addr).add j = ⟨g, j, none⟩ := by unfold Addr.add; split <;> simp_all
  rw [hadd]; exact hnews j u hu
 ·
  intro v' w' ho' hg _; refine h v' w' ?_ hg; unfold OwnF; rw [List.length_append, List.flatMap_append, List.flatMap_cons, List.flatMap_nil, List.append_nil]; exact ho'
theorem appS {t e : TypeId} {n bytes : Nat} (E : Elem P t e n bytes) {α : Type} {f : α → List Value} (hf : ∀ a, (f a).length = n) (h1 : ∀ b, ∀ u ∈ f b, u.oneCell' = true) (hgd : o.guard = none) (s x : Operand)
  (ho : o.op = .call { callee := .builtin .append, args := #[s, x], argTypes := #[t, t] }) {base : Nat} {v vs : Value} {l : List α} (src : List α) (hs : a.eval s = v) (hown : OwnF f n base e w v l)
  (hx : a.eval x = vs) (hsrc : RdS (Rep.flat n f hf) w vs src)
  (hl : (l.length + src.length) * bytes ≤ 140737488355328) (hm : l.length + src.length ≤ maxLen) (hbase : base ≤ w.heap.size)
  (h : ∀ v' w', OwnF f n base e w' v' (l ++ src) → w.grownBy w' v.ownBlock → wpList P ops Q rest (a.put o.dst v') w') : wpList P ops Q (o :: rest) a w := by
 obtain ⟨oa, cap, rfl, hc1, hc2, hn0, hel⟩ := hsrc
 cases oa with
 | none =>
  have hnil : src = [] := by
   cases src with
   | nil => rfl
   | cons b src => obtain ⟨_, _, _, he, _⟩ := hel 0 (by simp); cases he
  subst hnil; obtain rfl := hn0 rfl; refine wpList_append_own_none hgd s x t ho base e E.i n E.ht E.hi v l.length (l.flatMap f) hs hown hx ?_; refine h v w ?_ (World.grownBy.refl _ _); rw [List.append_nil]; exact hown
 | some ad =>
  refine wpList_append_own w hgd s x t ho base e E.i E.z n bytes E.ht E.hi E.hz E.hsize E.hby E.hzs E.hpos v l.length (l.flatMap f) hs hown ad src.length cap (src.flatMap f) hx (flatMap_len hf src) ?_ ?_ hm hl hbase ?_
  ·
   intro j u hu; have hjl : j < src.length * n := by rw [← flatMap_len hf src]; exact (List.getElem?_eq_some_iff.1 hu).1
   have hk : j / n < src.length := by rw [Nat.div_lt_iff_lt_mul E.hpos]; exact hjl
   have hr := Nat.mod_lt j E.hpos; obtain ⟨b, off, cs, hb, hcell, rfl⟩ := hel (j / n) hk
   cases hb
   have hfm := flatMap_at hf src (j / n) hk (j % n) hr; have hdm : j / n * n + j % n = j := by rw [Nat.mul_comm]; exact Nat.div_add_mod j n
   rw [hdm, hu] at hfm; have := hcell (j % n) u hfm.symm; have hadd : (⟨b, off, none⟩ : Addr).add j = ⟨b, off + j, none⟩ := by unfold Addr.add; split <;> simp_all
   rw [hadd]; rw [← this]
   show _ = w.cell? ⟨b, off + j / n * n + j % n, none⟩
   rw [Nat.add_assoc, hdm]
  ·
   intro u hu; obtain ⟨b, _, hb⟩ := List.mem_flatMap.1 hu; exact h1 b u hb
  ·
   intro v' w' ho' hg _; refine h v' w' ?_ hg; unfold OwnF; rw [List.length_append, List.flatMap_append]; exact ho'
theorem stepApp1 {t e : TypeId} {n bytes : Nat} (E : Elem P t e n bytes) {α : Type} {f : α → List Value} (hf : ∀ a, (f a).length = n) (h1 : ∀ b, ∀ u ∈ f b, u.oneCell' = true) {K : Act → World → Prop} {Ep : Prop} (hgd : o.guard = none) (s x : Operand)
  (ho : o.op = .call { callee := .builtin .append, args := #[s, x], argTypes := #[t, t] }) {base : Nat} {v : Value} {l : List α} (b : α) (hs : a.eval s = v) (hown : OwnF f n base e w v l)
  {g c : Nat} (hx : a.eval x = .slice (some ⟨g, 0, none⟩) 1 c) (hnews : ∀ j u, (f b)[j]? = some u → w.cell? ⟨g, j, none⟩ = some u)
  (hl : (l.length + 1) * bytes ≤ 140737488355328) (hm : l.length + 1 ≤ maxLen) (hbase : base ≤ w.heap.size)
  (h : ∀ v' w', OwnF f n base e w' v' (l ++ [b]) → w.grownBy w' v.ownBlock → K (a.put o.dst v') w') :
  if Region.wanted o (yielded ops a.tmps) = true then Oper.wp P o a w K Q else Ep := by
 have hw : Region.wanted o (yielded ops a.tmps) = true := by simp [Region.wanted, hgd]
 rw [if_pos hw]; refine wp_append_own w s x t ho base e E.i E.z n bytes E.ht E.hi E.hz E.hsize E.hby E.hzs E.hpos v l.length (l.flatMap f) hs hown ⟨g, 0, none⟩ 1 c (f b) hx (by rw [hf, Nat.one_mul]) ?_ (h1 b) hm hl hbase ?_
 ·
  intro j u hu; have hadd : (⟨g, 0, none⟩ : Addr).add j = ⟨g, j, none⟩ := by unfold Addr.add; split <;> simp_all
  rw [hadd]; exact hnews j u hu
 ·
  intro v' w' ho' hg _; refine h v' w' ?_ hg; unfold OwnF; rw [List.length_append, List.flatMap_append, List.flatMap_cons, List.flatMap_nil, List.append_nil]; exact ho'
end
theorem Ext.app {a b c : World} {α : Type} {f : α → List Value} {n base : Nat} {e : TypeId} {v : Value} {l : List α} (h : Ext a b) (hg : b.grownBy c v.ownBlock) {b' : World} (ho : OwnF f n base e b' v l) (hb : a.heap.size ≤ base) : Ext a c :=
 h.grown hg fun k hk => Nat.le_trans hb (OwnF.block ho k hk).1
theorem OwnF.nil {α : Type} (f : α → List Value) (n base : Nat) (e : TypeId) (w : World) : OwnF f n base e w (.slice none 0 0) [] := World.ownsRow_nil w base e n
theorem OwnF.empty {α : Type} (f : α → List Value) (n base : Nat) (e : TypeId) (w : World) (hb : base ≤ w.heap.size) : OwnF f n base e (w.alloc (.cells #[] e)) (.slice (some ⟨w.heap.size, 0, none⟩) 0 0) [] :=
 World.ownsRow_made w #[] 0 hb (by decide) (by simp)
theorem flatMap_set1 {α : Type} {n : Nat} {f : α → List Value} (hf : ∀ a, (f a).length = n) : ∀ (l : List α) (k : Nat) (hk : k < l.length) (j : Nat) (_ : j < n) (u : Value) (x : α), f x = (f l[k]).set j u → (l.flatMap f).set (k * n + j) u = (l.set k x).flatMap f
 | [], k, hk, _, _, _, _, _ => absurd hk (by simp)
 | a :: l, 0, _, j, hj, u, x, hx => by
  simp only [List.getElem_cons_zero] at hx; rw [List.flatMap_cons, Nat.zero_mul, Nat.zero_add, List.set_cons_zero, List.flatMap_cons, hx, List.set_append_left _ _ (by rw [hf]; exact hj)]
 | a :: l, k + 1, hk, j, hj, u, x, hx => by
  have := flatMap_set1 hf l k (by simpa using hk) j hj u x (by simpa using hx); rw [List.flatMap_cons, List.set_cons_succ, List.flatMap_cons, ← this, List.set_append_right _ _ (by rw [hf, Nat.succ_mul]; omega), hf, show (k + 1) * n + j - n = k * n + j from by rw [Nat.succ_mul]; omega]
theorem OwnF.put1 {α : Type} {n : Nat} {f : α → List Value} (hf : ∀ a, (f a).length = n) {base : Nat} {e : TypeId} {w : World} {g m cap : Nat} {l : List α} (h : OwnF f n base e w (.slice (some ⟨g, 0, none⟩) m cap) l) (k : Nat) (hk : k < l.length) (j : Nat) (hj : j < n) (u : Value) (x : α)
  (hx : f x = (f l[k]).set j u) : OwnF f n base e (w.setCell ⟨g, k * n + j, none⟩ u) (.slice (some ⟨g, 0, none⟩) m cap) (l.set k x) ∧ w.grownBy (w.setCell ⟨g, k * n + j, none⟩ u) (some g) := by
 obtain rfl := h.len; obtain ⟨h0, g0⟩ := World.ownsRow.stored h (k * n + j) u; rw [flatMap_set1 hf l k hk j hj u x hx] at h0; refine ⟨?_, g0⟩; unfold OwnF; rw [List.length_set]; exact h0
theorem RdS.part {α : Type} {r : Rep α} {w : World} {b off m cap : Nat} {l : List α} (h : RdS r w (.slice (some ⟨b, off, none⟩) m cap) l) (lo hi : Nat) (h1 : lo ≤ hi) (h2 : hi ≤ l.length) :
  RdS r w (.slice (some ⟨b, off + lo * r.cells, none⟩) (hi - lo) (cap - lo)) ((l.take hi).drop lo) := by
 obtain ⟨o, cap', hv, c1, c2, hn, hel⟩ := h
 cases hv
 have hlen : ((l.take hi).drop lo).length = hi - lo := by simp; omega
 refine ⟨_, _, by rw [hlen], by rw [hlen]; omega, by omega, (fun e => by cases e), fun i hi' => ?_⟩; rw [hlen] at hi'; obtain ⟨b', off', cs, hb, hc, hr⟩ := hel (lo + i) (by omega)
 cases hb
 refine ⟨b, off + lo * r.cells, cs, rfl, fun j u hj => ?_, ?_⟩
 ·
  have := hc j u hj; rw [Nat.add_mul, ← Nat.add_assoc] at this; exact this
 ·
  simpa using hr
theorem OwnF.emptyAt {α : Type} {f : α → List Value} {n base : Nat} {e : TypeId} {w : World} {g : Nat} (hg : g = w.heap.size) (hb : base ≤ g) : OwnF f n base e (w.alloc (.cells #[] e)) (.slice (some ⟨g, 0, none⟩) 0 0) [] := by
 subst hg; exact OwnF.empty f n base e w hb
theorem OwnF.capLe {α : Type} {f : α → List Value} {n base : Nat} {e : TypeId} {w : World} {g m cap : Nat} {l : List α} (h : OwnF f n base e w (.slice (some ⟨g, 0, none⟩) m cap) l) : m ≤ cap ∧ g < w.heap.size := by
 rcases h.2 with ⟨h', _⟩ | ⟨g', cap', cur, h', _, hg, hc, _⟩
 ·
  cases h'
 ·
  cases h'; exact ⟨hc, (Array.getElem?_eq_some_iff.1 hg).1⟩
theorem blk_lt {w : World} {b : Nat} {o : Obj} (h : w.heap[b]? = some o) : b < w.heap.size := (Array.getElem?_eq_some_iff.1 h).1
theorem RdS.capLe {α : Type} {r : Rep α} {w : World} {o : Option Addr} {m cap : Nat} {l : List α} (h : RdS r w (.slice o m cap) l) : l.length ≤ cap := by
 obtain ⟨o', cap', hv, c1, _⟩ := h
 cases hv
 exact c1
theorem OwnF.lit {α : Type} {n : Nat} {f : α → List Value} (hf : ∀ a, (f a).length = n) (base : Nat) (e : TypeId) (w : World) (l : List α) (hb : base ≤ w.heap.size) (hm : l.length ≤ maxLen) :
  OwnF f n base e (w.alloc (.cells (l.flatMap f).toArray e)) (.slice (some ⟨w.heap.size, 0, none⟩) l.length l.length) l := by
 have := World.ownsRow_lit (base := base) (e := e) (size := n) w (l.flatMap f).toArray l.length hb hm (by simpa using flatMap_len hf l); exact this
theorem blk_list {w : World} {b : Nat} (cs : List Value) {t : TypeId} {f : Nat × Nat} (h : w.heap[b]? = some (.cells cs.toArray t f)) : ∀ j u, cs[j]? = some u → w.cell? ⟨b, j, none⟩ = some u := by
 intro j u hu; rw [blk_cell h]
 simpa using hu
theorem blk_new2 (w : World) (o1 o2 : Obj) : ((w.alloc o1).alloc o2).heap[w.heap.size + 1]? = some o2 := by
 have := blk_new (w.alloc o1) o2
 rwa [nblk_alloc] at this
theorem filter_pos {α : Type} (p : α → Bool) {l : List α} {k : Nat} (hk : k < l.length) (h : p l[k] = true) : (l.take k).filter p ++ [l[k]] = (l.take (k + 1)).filter p := by
 rw [List.take_succ_eq_append_getElem hk, List.filter_append, List.filter_cons_of_pos h, List.filter_nil]
theorem filter_neg {α : Type} (p : α → Bool) {l : List α} {k : Nat} (hk : k < l.length) (h : ¬ p l[k] = true) : (l.take k).filter p = (l.take (k + 1)).filter p := by
 rw [List.take_succ_eq_append_getElem hk, List.filter_append, List.filter_cons_of_neg h, List.filter_nil, List.append_nil]
structure ExtW (w : World) where
  w' : World
  h : Ext w w'
instance (w : World) : Nonempty (ExtW w) := ⟨⟨w, Ext.refl w⟩⟩
theorem wp_region_ext {P : Program} {id : Nat} {Q : Exit → Act → World → Prop} {a : Act} {w : World} {l : List Oper} (hm : P.follows .mixedOrders = true) (hB : Region.lexB .any l.toArray = true)
  (h : wpQuiet P l.toArray (fun w1 => ∃ x : ExtW w, w1 = x.w') (fun a' => ∀ w1, (∃ x : ExtW w, w1 = x.w') → Q .normal a' w1) l a) : (Code.region id l.toArray true).wp P Q a w :=
 wp_region_quiet (C := fun w1 => ∃ x : ExtW w, w1 = x.w') hm hB ⟨⟨_, (Ext.refl w).drew⟩, rfl⟩ (by simpa using h)
theorem Calls.ext_of {P : Program} {f : FuncId} {args : Array Value} {w : World} {x : ExtW w} {v : Value}
  (h : Calls P f args x.w' fun e w1 => e = .returned v ∧ Ext x.w' w1) : Calls P f args x.w' fun e w1 => e = .returned v ∧ ∃ y : ExtW w, w1 = y.w' :=
 h.mono fun _ w1 ⟨he, hx⟩ => ⟨he, ⟨w1, x.h.trans hx⟩, rfl⟩
theorem Calls.ext_same {P : Program} {f : FuncId} {args : Array Value} {w : World} {x : ExtW w} {v : Value}
  (h : Calls P f args x.w' fun e w1 => e = .returned v ∧ x.w' = w1) : Calls P f args x.w' fun e w1 => e = .returned v ∧ ∃ y : ExtW w, w1 = y.w' :=
 h.mono fun _ _ ⟨he, hx⟩ => ⟨he, x, hx.symm⟩
theorem ExtW.cell {w : World} {p : Addr} {v : Value} (h : w.cell? p = some v) : ∀ x : ExtW w, x.w'.cell? p = some v := fun x => x.h.cell h
end
section
open Go.ChangeShapes Go.WideShapes Go.ChangeAt Go.RowKit Go.Deep
theorem blk_set {w : World} {b : Nat} {arr : Array Value} {t : TypeId} {f : Nat × Nat} (h : w.heap[b]? = some (.cells arr t f)) (o : Nat) (v : Value) : (w.setCell ⟨b, o, none⟩ v).heap[b]? = some (.cells (arr.setIfInBounds o v) t f) := by
 simp [World.setCell, Array.getElem?_modify, h]
theorem blk_set_ne {w : World} {b b' : Nat} {ob : Obj} (h : w.heap[b]? = some ob) (hne : b' ≠ b) (o : Nat) (v : Value) : (w.setCell ⟨b', o, none⟩ v).heap[b]? = some ob := by
 simp [World.setCell, Array.getElem?_modify, hne, h]
theorem fr_of {w : World} {b : Nat} {arr : Array Value} {t : TypeId} (h : w.heap[b]? = some (.cells arr t (0, 0))) : ∀ o, w.frozen? ⟨b, o, none⟩ = false := fun o => blk_frozen h o
theorem al2 (w : World) (o1 o2 : Obj) : ((w.alloc o1).alloc o2).heap[w.heap.size]? = some o1 ∧ ((w.alloc o1).alloc o2).heap[w.heap.size + 1]? = some o2 :=
 ⟨Ext.block ((Ext.refl _).alloc o2) (blk_new w o1), blk_new2 w o1 o2⟩
theorem al3 (w : World) (o1 o2 o3 : Obj) : (((w.alloc o1).alloc o2).alloc o3).heap[w.heap.size]? = some o1 ∧ (((w.alloc o1).alloc o2).alloc o3).heap[w.heap.size + 1]? = some o2 ∧ (((w.alloc o1).alloc o2).alloc o3).heap[w.heap.size + 1 + 1]? = some o3 := by
 have h := al2 w o1 o2; refine ⟨Ext.block ((Ext.refl _).alloc o3) h.1, Ext.block ((Ext.refl _).alloc o3) h.2, ?_⟩; have := blk_new ((w.alloc o1).alloc o2) o3
 rwa [nblk_alloc, nblk_alloc] at this
theorem ext3 (w : World) (o1 o2 o3 : Obj) : Ext w (((w.alloc o1).alloc o2).alloc o3) := (((Ext.refl w).alloc o1).alloc o2).alloc o3
theorem ext2 (w : World) (o1 o2 : Obj) : Ext w ((w.alloc o1).alloc o2) := ((Ext.refl w).alloc o1).alloc o2
theorem OwnF.set {α : Type} {n : Nat} {f : α → List Value} {base : Nat} {e : TypeId} {w : World} {v : Value} {l : List α} (h : OwnF f n base e w v l) {p : Addr} (hp : p.block < base) (u : Value) : OwnF f n base e (w.setCell p u) v l := by
 obtain ⟨h1, h2⟩ := h; refine ⟨h1, ?_⟩
 rcases h2 with h2 | ⟨g, cap, cur, hv, hb, hg, r⟩
 ·
  exact .inl h2
 ·
  refine .inr ⟨g, cap, cur, hv, hb, ?_, r⟩; obtain ⟨pb, po, ps⟩ := p; have hne : pb ≠ g := by simp only at hp; omega
  simp [World.setCell, Array.getElem?_modify, hne, hg]
theorem blk_set3 {w : World} {b : Nat} {x0 x1 x2 : Value} {t : TypeId} {f : Nat × Nat} (h : w.heap[b]? = some (.cells #[x0, x1, x2] t f)) (y0 y1 y2 : Value) :
  (((w.setCell ⟨b, 0, none⟩ y0).setCell ⟨b, 1, none⟩ y1).setCell ⟨b, 2, none⟩ y2).heap[b]? = some (.cells #[y0, y1, y2] t f) := by
 have := blk_set (blk_set (blk_set h 0 y0) 1 y1) 2 y2
 simpa using this
theorem ext_set3 {a w : World} (h : Ext a w) {b : Nat} (hb : a.heap.size ≤ b) (y0 y1 y2 : Value) : Ext a (((w.setCell ⟨b, 0, none⟩ y0).setCell ⟨b, 1, none⟩ y1).setCell ⟨b, 2, none⟩ y2) :=
 ((h.setCell hb _).setCell hb _).setCell hb _
theorem OwnF.ne {α : Type} {n : Nat} {f : α → List Value} {base : Nat} {e : TypeId} {w : World} {v : Value} {l : List α} (h : OwnF f n base e w v l) {b : Nat} {cs : Array Value} {t : TypeId} {fr : Nat × Nat} (hb : w.heap[b]? = some (.cells cs t fr)) (hne : e ≠ t) : v.ownBlock ≠ some b := by
 rcases h.2 with ⟨rfl, _⟩ | ⟨g', cap, cur, rfl, _, hh, _⟩
 ·
  simp [Value.ownBlock]
 ·
  intro he; have : g' = b := by simpa [Value.ownBlock] using he
  subst this; rw [hh] at hb
  injection hb with hb
  injection hb with _ ht
  exact hne ht
theorem own_ne {α : Type} {n : Nat} {f : α → List Value} {base : Nat} {e : TypeId} {w : World} {v : Value} {l : List α} {b : Nat} {cs : Array Value} {t : TypeId} {fr : Nat × Nat} (h : OwnF f n base e w v l) (hb : w.heap[b]? = some (.cells cs t fr)) (hne : e ≠ t) {w' : World} (hg : w.grownBy w' v.ownBlock) : w'.heap[b]? = some (.cells cs t fr) :=
 (hg.block b (blk_lt hb) (fun e => h.ne hb hne e.symm)).trans hb
theorem OwnF.keptT {α β : Type} {n m : Nat} {f : α → List Value} {f' : β → List Value} {base base' : Nat} {e e' : TypeId} {w w' : World} {v v' : Value} {l : List α} {l' : List β} (h' : OwnF f' m base' e' w v' l') (h : OwnF f n base e w v l) (hne : e ≠ e') (hg : w.grownBy w' v.ownBlock) : OwnF f' m base' e' w' v' l' := by
 obtain ⟨h1, h2⟩ := h'; refine ⟨h1, ?_⟩
 rcases h2 with h2 | ⟨g, cap, cur, rfl, hb, hg', r⟩
 ·
  exact .inl h2
 ·
  exact .inr ⟨g, cap, cur, rfl, hb, own_ne h hg' hne hg, r⟩
theorem OwnF.trim {α : Type} {n : Nat} {f : α → List Value} (hf : ∀ a, (f a).length = n) {base : Nat} {e : TypeId} {w : World} {g m cap : Nat} {l : List α} (h : OwnF f n base e w (.slice (some ⟨g, 0, none⟩) m cap) l) (k : Nat) (hk : k ≤ l.length) : OwnF f n base e w (.slice (some ⟨g, 0, none⟩) k cap) (l.take k) := by
 obtain rfl := h.len; obtain ⟨h1, h2⟩ := h; have hl : (l.take k).length = k := by simp; omega
 refine ⟨by rw [flatMap_len hf], ?_⟩
 rcases h2 with ⟨h2, _⟩ | ⟨g', cap', cur, hv, hb, hg, hc1, hc2, hc3, ht⟩
 ·
  cases h2
 ·
  cases hv
  refine .inr ⟨g, cap, cur, by rw [hl], hb, hg, by rw [hl]; omega, hc2, hc3, ?_⟩
  have e1 : (l.take k).flatMap f = (l.flatMap f).take (k * n) := by
   have h3 : l.flatMap f = (l.take k).flatMap f ++ (l.drop k).flatMap f := by rw [← List.flatMap_append, List.take_append_drop]
   rw [h3, List.take_left' (by rw [flatMap_len hf, hl])]
  rw [e1, hl, ← ht, List.take_take, Nat.min_eq_left (Nat.mul_le_mul_right _ hk)]
end
end Go.Proofs.YtcpfmhgfaliemaaGreat
