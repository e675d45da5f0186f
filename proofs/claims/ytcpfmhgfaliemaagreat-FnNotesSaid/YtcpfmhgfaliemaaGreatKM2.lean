/- What these laws need: FnNotes: Ownership of slices whose elements may hold slices of their own: what a row owns is a set of blocks. Operations that hand back a value and leave the world alone: what they hand back stays the same in every world that extends this one. -/
import Derived.Maps.AppendAt
import Derived.OrdersHeld
import Derived.Test.YtcpfmhgfaliemaaGreatKM1
namespace Go.Proofs.YtcpfmhgfaliemaaGreat
section
open Go.ChangeShapes Go.WideShapes Go.ChangeAt Go.RowKit Go.Deep
structure Chg (S : Nat → Prop) (w w' : World) : Prop where
  os : w'.os = w.os
  tape : w'.tape = w.tape
  output : w'.output = w.output
  size : w.heap.size ≤ w'.heap.size
  block : ∀ k, k < w.heap.size → ¬ S k → w'.heap[k]? = w.heap[k]?
def noB : Nat → Prop := fun _ => False
def rng (lo hi : Nat) : Nat → Prop := fun b => lo ≤ b ∧ b < hi
theorem Chg.refl (S : Nat → Prop) (w : World) : Chg S w w := ⟨rfl, rfl, rfl, Nat.le_refl _, fun _ _ _ => rfl⟩
theorem Chg.trans {S : Nat → Prop} {a b c : World} (h : Chg S a b) (k : Chg S b c) : Chg S a c :=
 ⟨k.os.trans h.os, k.tape.trans h.tape, k.output.trans h.output, Nat.le_trans h.size k.size, fun i hi hn => (k.block i (Nat.lt_of_lt_of_le hi h.size) hn).trans (h.block i hi hn)⟩
theorem Chg.t {S : Nat → Prop} {a b c : World} (h : Chg S a b) (k : Chg S b c) : Chg S a c := h.trans k
theorem Chg.mono {S T : Nat → Prop} {a b : World} (h : Chg S a b) (hs : ∀ k, S k → T k) : Chg T a b := ⟨h.os, h.tape, h.output, h.size, fun i hi hn => h.block i hi (fun hk => hn (hs i hk))⟩
theorem Chg.ofExt {S : Nat → Prop} {a b : World} (h : Ext a b) : Chg S a b := ⟨h.below.os, h.below.tape, h.below.output, h.size, fun i hi _ => h.below.block i hi⟩
theorem Chg.ofGrown {S : Nat → Prop} {a b : World} {row : Option Nat} (h : a.grownBy b row) (hs : ∀ k, row = some k → S k) : Chg S a b :=
 ⟨h.os, h.tape, h.output, h.size, fun i hi hn => h.block i hi (fun e => hn (hs i e.symm))⟩
theorem Ext.chg {S : Nat → Prop} {a b c : World} (h : Ext a b) (k : Chg S b c) (hs : ∀ i, S i → a.heap.size ≤ i) : Ext a c :=
 ⟨k.os.trans h.below.os, k.tape.trans h.below.tape, k.output.trans h.below.output, Nat.le_trans h.size k.size,
  fun i hi => (k.block i (Nat.lt_of_lt_of_le hi h.size) (fun hk => by have := hs i hk; omega)).trans (h.below.block i hi)⟩
theorem OwnF.to0 {α : Type} {n : Nat} {f : α → List Value} {base : Nat} {e : TypeId} {w : World} {v : Value} {l : List α} (h : OwnF f n base e w v l) : OwnF f n 0 e w v l := h.mono (Nat.zero_le _)
theorem OwnF.chg {α : Type} {n : Nat} {f : α → List Value} {base : Nat} {e : TypeId} {w w' : World} {v : Value} {l : List α} {S : Nat → Prop} (h : OwnF f n base e w v l) (c : Chg S w w') (hs : ∀ k, v.ownBlock = some k → ¬ S k) : OwnF f n base e w' v l := by
 obtain ⟨h1, h2⟩ := h; refine ⟨h1, ?_⟩
 rcases h2 with h2 | ⟨g, cap, cur, rfl, hb, hg, r⟩
 ·
  exact .inl h2
 ·
  exact .inr ⟨g, cap, cur, rfl, hb, (c.block g (blk_lt hg) (hs g rfl)).trans hg, r⟩
structure Own (α : Type) where
  rep : Rep α
  own : (Nat → Prop) → World → Value → List α → Prop
  rd : ∀ {S : Nat → Prop} {w : World} {v : Value} {l : List α}, own S w v l → RdS rep w v l
  mono : ∀ {S T : Nat → Prop} {w : World} {v : Value} {l : List α}, own S w v l → (∀ b, S b → T b) → own T w v l
  kept : ∀ {S T : Nat → Prop} {w w' : World} {v : Value} {l : List α}, own S w v l → Chg T w w' → (∀ b, S b → ¬ T b) → own S w' v l
  nil : ∀ (w : World), own noB w (.slice none 0 0) []
  inb : ∀ {S : Nat → Prop} {w : World} {v : Value} {l : List α}, own S w v l → own (fun b => S b ∧ b < w.heap.size) w v l
theorem Own.ext {α : Type} {O : Own α} {S : Nat → Prop} {w w' : World} {v : Value} {l : List α} (h : O.own S w v l) (x : Ext w w') : O.own S w' v l :=
 O.kept h (Chg.ofExt (S := noB) x) (fun _ _ h => h)
def Own.flat {α : Type} (f : α → List Value) (n : Nat) (hf : ∀ a, (f a).length = n) (e : TypeId) : Own α where
  rep := Rep.flat n f hf
  own S w v l := OwnF f n 0 e w v l ∧ ∀ k, v.ownBlock = some k → S k
  rd h := OwnF.rd h.1
  mono h hs := ⟨h.1, fun k hk => hs k (h.2 k hk)⟩
  kept h c hs := ⟨h.1.chg c (fun k hk => hs k (h.2 k hk)), h.2⟩
  nil w := ⟨OwnF.nil _ _ _ _ _, (fun k hk => by simp [Value.ownBlock] at hk)⟩
  inb h := ⟨h.1, fun k hk => ⟨h.2 k hk, (h.1.block k hk).2⟩⟩
theorem Own.ofF {α : Type} {f : α → List Value} {n : Nat} {hf : ∀ a, (f a).length = n} {e : TypeId} {base : Nat} {w : World} {v : Value} {l : List α} (h : OwnF f n base e w v l) : (Own.flat f n hf e).own (rng base w.heap.size) w v l :=
 ⟨h.to0, fun k hk => h.block k hk⟩
structure Cap (α : Type) where
  dat : α
  val : Value
  set : Nat → Prop
def capF {α : Type} (c : α → Value → List Value) (q : Cap α) : List Value := c q.dat q.val
def Own.nest {α β : Type} (n : Nat) (c : α → Value → List Value) (hc : ∀ a v, (c a v).length = n) (sub : α → List β) (e : TypeId) (I : Own β) : Own α where
  rep := { cells := n
           rd := fun w cs a => ∃ v, cs = c a v ∧ RdS I.rep w v (sub a)
           len := by rintro w cs a ⟨v, rfl, _⟩; exact hc _ _
           ext := by rintro w w' cs a x ⟨v, rfl, h⟩; exact ⟨v, rfl, h.ext x⟩ }
  own S w v l := ∃ qs : List (Cap α), qs.map (·.dat) = l ∧ OwnF (capF c) n 0 e w v qs ∧ (∀ k, v.ownBlock = some k → S k) ∧
    (∀ q ∈ qs, I.own q.set w q.val (sub q.dat) ∧ ∀ b, q.set b → S b ∧ v.ownBlock ≠ some b ∧ b < w.heap.size) ∧
    ∀ (i j : Nat) (hi : i < qs.length) (hj : j < qs.length), i ≠ j → ∀ b, qs[i].set b → ¬ qs[j].set b
  rd := by
    rintro S w v l ⟨qs, rfl, ho, _, hq, _⟩; obtain ⟨o, cap, rfl, h1, h2, h3, h4⟩ := OwnF.rd (hf := fun q : Cap α => hc q.dat q.val) ho; refine ⟨o, cap, by simp, by simpa using h1, h2, h3, fun i hi => ?_⟩; have hi' : i < qs.length := by simpa using hi
    obtain ⟨b, off, cs, e1, e2, e3⟩ := h4 i hi'; refine ⟨b, off, cs, e1, e2, ?_⟩
    cases e3
    exact ⟨qs[i].val, by simp, by simpa using I.rd (hq qs[i] (List.getElem_mem _)).1⟩
  mono := by
    rintro S T w v l ⟨qs, rfl, ho, h1, hq, hd⟩ hs; exact ⟨qs, rfl, ho, fun k hk => hs k (h1 k hk), fun q h => ⟨(hq q h).1, fun b hb => ⟨hs b ((hq q h).2 b hb).1, ((hq q h).2 b hb).2⟩⟩, hd⟩
  kept := by
    rintro S T w w' v l ⟨qs, rfl, ho, h1, hq, hd⟩ c hs; refine ⟨qs, rfl, ho.chg c (fun k hk => hs k (h1 k hk)), h1, fun q h => ⟨I.kept (hq q h).1 c (fun b hb => hs b ((hq q h).2 b hb).1), fun b hb => ?_⟩, hd⟩; obtain ⟨x, y, z⟩ := (hq q h).2 b hb; exact ⟨x, y, Nat.lt_of_lt_of_le z c.size⟩
  nil w := ⟨[], rfl, OwnF.nil _ _ _ _ _, (fun k hk => by simp [Value.ownBlock] at hk), (fun q h => by cases h), (fun i j hi => by cases hi)⟩
  inb := by
    rintro S w v l ⟨qs, rfl, ho, h1, hq, hd⟩; refine ⟨qs, rfl, ho, fun k hk => ⟨h1 k hk, (ho.block k hk).2⟩, fun q h => ⟨(hq q h).1, fun b hb => ?_⟩, hd⟩; obtain ⟨x, y, z⟩ := (hq q h).2 b hb; exact ⟨⟨x, z⟩, y, z⟩
theorem ownBlock_slice (g m cap : Nat) : (Value.slice (some ⟨g, 0, none⟩) m cap).ownBlock = some g := rfl
section
variable {α β : Type} {n : Nat} {c : α → Value → List Value} {hc : ∀ a v, (c a v).length = n} {sub : α → List β} {e : TypeId} {I : Own β}
theorem nest_len {S : Nat → Prop} {w : World} {o : Option Addr} {m cap : Nat} {l : List α} (h : (Own.nest n c hc sub e I).own S w (.slice o m cap) l) : m = l.length := by
 obtain ⟨qs, rfl, ho, _⟩ := h
 simpa using ho.len
theorem nest_shape {S : Nat → Prop} {w : World} {v : Value} {l : List α} (h : (Own.nest n c hc sub e I).own S w v l) (hl : 0 < l.length) : ∃ g cap, v = .slice (some ⟨g, 0, none⟩) l.length cap ∧ S g ∧ g < w.heap.size := by
 obtain ⟨qs, rfl, ho, hs, _⟩ := h; obtain ⟨g, cap, rfl, _, hg⟩ := ho.some_shape (by simpa using hl); exact ⟨g, cap, by simp, hs g rfl, hg⟩
theorem nest_free {S : Nat → Prop} {w : World} {g m cap : Nat} {l : List α} (h : (Own.nest n c hc sub e I).own S w (.slice (some ⟨g, 0, none⟩) m cap) l) (j : Nat) : w.frozen? ⟨g, j, none⟩ = false := by
 obtain ⟨qs, rfl, ho, _⟩ := h; exact ho.free j
theorem nest_zero (z : α) (hz : sub z = []) {w : World} {g m cap : Nat} (ho : OwnF (capF c) n 0 e w (.slice (some ⟨g, 0, none⟩) m cap) (List.replicate m ⟨z, .slice none 0 0, noB⟩)) (S : Nat → Prop) (hS : S g) :
  (Own.nest n c hc sub e I).own S w (.slice (some ⟨g, 0, none⟩) m cap) (List.replicate m z) := by
 refine ⟨_, by simp, ho, (fun k hk => by cases hk; exact hS), fun q hq => ?_, fun i j hi hj hne b hb => ?_⟩
 ·
  obtain ⟨_, rfl⟩ := List.mem_replicate.1 hq; exact ⟨by rw [hz]; exact I.nil w, fun b hb => hb.elim⟩
 ·
  simp at hb; exact hb.elim
theorem nest_at {S : Nat → Prop} {w : World} {g m cap : Nat} {l : List α} (h : (Own.nest n c hc sub e I).own S w (.slice (some ⟨g, 0, none⟩) m cap) l) (k : Nat) (hk : k < l.length) :
  ∃ (hv : Value) (T : Nat → Prop), (∀ j u, (c l[k] hv)[j]? = some u → w.cell? ⟨g, k * n + j, none⟩ = some u) ∧ I.own T w hv (sub l[k]) ∧ (∀ b, T b → S b ∧ b ≠ g ∧ b < w.heap.size) ∧
   (∀ (w' : World) (x : α), Chg T w w' → I.own T w' hv (sub x) → c x hv = c l[k] hv → (Own.nest n c hc sub e I).own S w' (.slice (some ⟨g, 0, none⟩) m cap) (l.set k x)) := by
 obtain ⟨qs, rfl, ho, hS, hq, hd⟩ := h; have hk' : k < qs.length := by simpa using hk
 have hcell := OwnF.cells_flat (fun q : Cap α => hc q.dat q.val) ho k hk'; obtain ⟨hi, hb⟩ := hq qs[k] (List.getElem_mem _); refine ⟨qs[k].val, qs[k].set, by simpa [capF] using hcell, by simpa using hi, fun b h => ⟨(hb b h).1, fun e => (hb b h).2.1 (by rw [e]; rfl), (hb b h).2.2⟩, fun w' x hch hown hcx => ?_⟩
 have hqs : (qs.set k ⟨x, qs[k].val, qs[k].set⟩).flatMap (capF c) = qs.flatMap (capF c) := by
  have h1 : capF c ⟨x, qs[k].val, qs[k].set⟩ = capF c qs[k] := by simpa [capF] using hcx
  have h2 : ∀ (qs : List (Cap α)) (k : Nat) (hk : k < qs.length) (y : Cap α), capF c y = capF c qs[k] → (qs.set k y).flatMap (capF c) = qs.flatMap (capF c) := by
   intro qs
   induction qs with
   | nil => intro k hk; cases hk
   | cons a qs ih =>
    intro k hk y hy
    cases k with
    | zero => simp only [List.set_cons_zero, List.flatMap_cons, List.getElem_cons_zero] at hy ⊢; rw [hy]
    | succ k => simp only [List.set_cons_succ, List.flatMap_cons, List.getElem_cons_succ] at hy ⊢; rw [ih k (by simpa using hk) y hy]
  exact h2 qs k hk' _ h1
 have ho' : OwnF (capF c) n 0 e w' (.slice (some ⟨g, 0, none⟩) m cap) (qs.set k ⟨x, qs[k].val, qs[k].set⟩) := by
  have := ho.chg hch (fun b hb' hT => (hb b hT).2.1 hb'); unfold OwnF at this ⊢
  rw [hqs, List.length_set]; exact this
 refine ⟨qs.set k ⟨x, qs[k].val, qs[k].set⟩, by simp [List.map_set], ho', hS, fun q hqm => ?_, fun i j hi hj hne b hbi => ?_⟩
 ·
  obtain ⟨i, hi, rfl⟩ := List.getElem_of_mem hqm; rw [List.getElem_set]
  by_cases hki : k = i
  ·
   subst hki; simp only [if_pos]; exact ⟨hown, fun b hbb => ⟨(hb b hbb).1, (hb b hbb).2.1, Nat.lt_of_lt_of_le (hb b hbb).2.2 hch.size⟩⟩
  ·
   rw [if_neg hki]; have hi' : i < qs.length := by simpa using hi
   obtain ⟨a1, a2⟩ := hq qs[i] (List.getElem_mem _); refine ⟨I.kept a1 hch (fun b hbb => hd i k hi' hk' (fun e => hki e.symm) b hbb), fun b hbb => ?_⟩; obtain ⟨x1, x2, x3⟩ := a2 b hbb; exact ⟨x1, x2, Nat.lt_of_lt_of_le x3 hch.size⟩
 ·
  have hi' : i < qs.length := by simpa using hi
  have hj' : j < qs.length := by simpa using hj
  rw [List.getElem_set] at hbi ⊢
  have s1 : qs[i].set b := by
   by_cases e1 : k = i
   ·
    subst e1; simpa using hbi
   ·
    rw [if_neg e1] at hbi; exact hbi
  have s2 := hd i j hi' hj' hne b s1
  by_cases e2 : k = j
  ·
   subst e2; simpa using s2
  ·
   rw [if_neg e2]; exact s2
theorem nest_put {S S' T : Nat → Prop} {w w1 w2 : World} {g m cap : Nat} {l : List α} (h : (Own.nest n c hc sub e I).own S w (.slice (some ⟨g, 0, none⟩) m cap) l) (k : Nat) (hk : k < l.length) (x : α) (hv : Value)
  (hx : Ext w w1) (hi : I.own T w1 hv (sub x)) (hT : ∀ b, T b → S' b ∧ w.heap.size ≤ b ∧ b < w1.heap.size) (hS' : ∀ b, S b → S' b) (hg : w1.grownBy w2 (some g))
  (hrow : ∀ (qs : List (Cap α)), qs.map (·.dat) = l → OwnF (capF c) n 0 e w1 (.slice (some ⟨g, 0, none⟩) m cap) qs → OwnF (capF c) n 0 e w2 (.slice (some ⟨g, 0, none⟩) m cap) (qs.set k ⟨x, hv, T⟩)) :
  (Own.nest n c hc sub e I).own S' w2 (.slice (some ⟨g, 0, none⟩) m cap) (l.set k x) := by
 obtain ⟨qs, rfl, ho, hS, hq, hd⟩ := h; have hgs : g < w.heap.size := (ho.block g rfl).2; have hch : Chg (fun b => b = g) w1 w2 := Chg.ofGrown hg (fun k hk => by cases hk; rfl); refine ⟨qs.set k ⟨x, hv, T⟩, by simp [List.map_set], hrow qs rfl (ho.ext hx), fun b hb => hS' b (hS b hb), fun q hqm => ?_, fun i j hi' hj' hne b hbi => ?_⟩
 ·
  obtain ⟨i, hil, rfl⟩ := List.getElem_of_mem hqm; rw [List.getElem_set]
  by_cases hki : k = i
  ·
   subst hki; simp only [if_pos]; refine ⟨I.kept hi hch (fun b hb e => by have := hT b hb; omega), fun b hb => ⟨(hT b hb).1, fun e => ?_, Nat.lt_of_lt_of_le (hT b hb).2.2 hch.size⟩⟩; have : g = b := by simpa [Value.ownBlock] using e
   have := hT b hb; omega
  ·
   rw [if_neg hki]; have hi' : i < qs.length := by simpa using hil
   obtain ⟨a1, a2⟩ := hq qs[i] (List.getElem_mem _); refine ⟨I.kept (Own.ext a1 hx) hch (fun b hbb e => (a2 b hbb).2.1 (by rw [e]; rfl)), fun b hbb => ?_⟩; obtain ⟨x1, x2, x3⟩ := a2 b hbb; exact ⟨hS' b x1, x2, Nat.lt_of_lt_of_le x3 (Nat.le_trans hx.size hch.size)⟩
 ·
  have hi2 : i < qs.length := by simpa using hi'
  have hj2 : j < qs.length := by simpa using hj'
  rw [List.getElem_set] at hbi ⊢
  by_cases e1 : k = i
  ·
   subst e1; simp only [if_pos] at hbi; rw [if_neg hne]; intro h3; have := ((hq qs[j] (List.getElem_mem _)).2 b h3).2.2; have := hT b hbi; omega
  ·
   rw [if_neg e1] at hbi
   by_cases e2 : k = j
   ·
    subst e2; simp only [if_pos]; intro h3; have := ((hq qs[i] (List.getElem_mem _)).2 b hbi).2.2; have := hT b h3; omega
   ·
    rw [if_neg e2]; exact hd i j hi2 hj2 hne b hbi
theorem nest_push {S S' T : Nat → Prop} {w w1 w2 : World} {v v' : Value} {l : List α} (qs : List (Cap α)) (x : α) (hv : Value)
  (hl : qs.map (·.dat) = l) (hS : ∀ k, v.ownBlock = some k → S k)
  (hq : ∀ q ∈ qs, I.own q.set w q.val (sub q.dat) ∧ ∀ b, q.set b → S b ∧ v.ownBlock ≠ some b ∧ b < w.heap.size)
  (hd : ∀ (i j : Nat) (hi : i < qs.length) (hj : j < qs.length), i ≠ j → ∀ b, qs[i].set b → ¬ qs[j].set b)
  (hvb : ∀ k, v.ownBlock = some k → k < w.heap.size)
  (hx : Ext w w1) (hi : I.own T w1 hv (sub x)) (hT : ∀ b, T b → S' b ∧ w.heap.size ≤ b ∧ b < w1.heap.size) (hS' : ∀ b, S b → S' b) (hg : w1.grownBy w2 v.ownBlock)
  (hat : v'.ownBlock = v.ownBlock ∨ ∃ k, v'.ownBlock = some k ∧ w1.heap.size ≤ k ∧ S' k) (ho : OwnF (capF c) n 0 e w2 v' (qs ++ [⟨x, hv, T⟩])) :
  (Own.nest n c hc sub e I).own S' w2 v' (l ++ [x]) := by
 subst hl; have hch : Chg (fun b => v.ownBlock = some b) w1 w2 := Chg.ofGrown hg (fun k hk => hk)
 have hne : ∀ b, b < w1.heap.size → v.ownBlock ≠ some b → v'.ownBlock ≠ some b := by
  intro b hb hn
  rcases hat with h1 | ⟨k, h1, h2, _⟩
  ·
   rw [h1]; exact hn
  ·
   rw [h1]; intro e; cases e; omega
 refine ⟨qs ++ [⟨x, hv, T⟩], by simp, ho, fun k hk => ?_, fun q hqm => ?_, fun i j hi' hj' hne' b hbi => ?_⟩
 ·
  rcases hat with h1 | ⟨k', h1, h2, h3⟩
  ·
   rw [h1] at hk; exact hS' k (hS k hk)
  ·
   rw [h1] at hk; cases hk; exact h3
 ·
  rcases List.mem_append.1 hqm with h1 | h1
  ·
   obtain ⟨a1, a2⟩ := hq q h1; refine ⟨I.kept (Own.ext a1 hx) hch (fun b hb => (a2 b hb).2.1), fun b hb => ?_⟩; obtain ⟨x1, x2, x3⟩ := a2 b hb; exact ⟨hS' b x1, hne b (Nat.lt_of_lt_of_le x3 hx.size) x2, Nat.lt_of_lt_of_le x3 (Nat.le_trans hx.size hch.size)⟩
  ·
   obtain rfl := List.mem_singleton.1 h1; have hnb : ∀ b, T b → v.ownBlock ≠ some b := fun b hb e => by have := hvb b e; have := hT b hb; omega
   refine ⟨I.kept hi hch hnb, fun b hb => ⟨(hT b hb).1, hne b (hT b hb).2.2 (hnb b hb), Nat.lt_of_lt_of_le (hT b hb).2.2 hch.size⟩⟩
 ·
  simp only [List.length_append, List.length_singleton] at hi' hj'
  rcases Nat.lt_or_ge i qs.length with e1 | e1
  ·
   rw [List.getElem_append_left e1] at hbi
   rcases Nat.lt_or_ge j qs.length with e2 | e2
   ·
    rw [List.getElem_append_left e2]; exact hd i j e1 e2 hne' b hbi
   ·
    rw [List.getElem_append_right e2]; have : j - qs.length = 0 := by omega
    simp only [this, List.getElem_cons_zero]; intro h3; have := ((hq qs[i] (List.getElem_mem _)).2 b hbi).2.2; have := hT b h3; omega
  ·
   rw [List.getElem_append_right e1] at hbi; have h0 : i - qs.length = 0 := by omega
   simp only [h0, List.getElem_cons_zero] at hbi; have e2 : j < qs.length := by omega
   rw [List.getElem_append_left e2]; intro h3; have := ((hq qs[j] (List.getElem_mem _)).2 b h3).2.2; have := hT b hbi; omega
end
end
section
open Go.ChangeShapes Go.WideShapes Go.ChangeAt Go.RowKit Go.Deep
section
variable {P : Program} {K : World → World → Prop}
def Steady (P : Program) (K : World → World → Prop) {α : Type} (s : Sem α) : Prop :=
  ∀ (w w' : World) (a : α) (w1 : World), K w w' → s.run P w = .ok a w1 → w1 = w ∧ s.run P w' = .ok a w'
def Never (P : Program) {α : Type} (s : Sem α) : Prop := ∀ (w : World) (a : α) (w1 : World), s.run P w ≠ .ok a w1
theorem Never.steady {α : Type} {s : Sem α} (h : Never P s) : Steady P K s := fun w _ a w1 _ hr => absurd hr (h w a w1)
theorem never_halt {α : Type} (h : Halt) : Never P (Sem.halt h : Sem α) := fun w a w1 hr => by simp [Sem.run] at hr
theorem Never.bind {α β : Type} {s : Sem α} {f : α → Sem β} (h : ∀ a, Never P (f a)) : Never P (s >>= f) := by
 intro w b w1 hr; rw [Sem.run_bind] at hr
 cases hs : s.run P w with
 | ok a w2 => rw [hs] at hr; exact h a w2 b w1 hr
 | halt x w2 => rw [hs] at hr; cases hr
theorem steady_pure {α : Type} (a : α) : Steady P K (pure a : Sem α) := fun w w' b w1 _ hr => by
 rw [Sem.run_pure] at hr; cases hr; exact ⟨rfl, rfl⟩
theorem steady_halt {α : Type} (h : Halt) : Steady P K (Sem.halt h : Sem α) := (never_halt h).steady
theorem steady_stuck {α : Type} (s : String) : Steady P K (stuck s : Sem α) := steady_halt _
theorem steady_unsup {α : Type} (u : Unsupported) : Steady P K (unsupported u : Sem α) := steady_halt _
theorem Steady.bind {α β : Type} {s : Sem α} {f : α → Sem β} (hs : Steady P K s) (hf : ∀ a, Steady P K (f a)) : Steady P K (s >>= f) := by
 intro w w' b w1 hk hr; rw [Sem.run_bind] at hr
 cases hx : s.run P w with
 | ok a w2 =>
  rw [hx] at hr; obtain ⟨rfl, h2⟩ := hs w w' a w2 hk hx; obtain ⟨rfl, h3⟩ := hf a _ w' b w1 hk hr; exact ⟨rfl, by rw [Sem.run_bind, h2]; exact h3⟩
 | halt x w2 => rw [hx] at hr; cases hr
theorem steady_program : Steady P K (program : Sem Program) := fun w w' b w1 _ hr => by
 cases hr; exact ⟨rfl, rfl⟩
theorem steady_typeInfo (t : TypeId) : Steady P K (typeInfo t) := by
 unfold typeInfo; refine steady_program.bind fun p => ?_
 split
 ·
  exact steady_pure _
 ·
  exact steady_stuck _
theorem steady_underlying (t : TypeId) : Steady P K (underlying t) := by
 unfold underlying; refine steady_program.bind fun p => ?_
 split
 ·
  exact steady_pure _
 ·
  exact steady_stuck _
theorem steady_sizeOf (t : TypeId) : Steady P K (sizeOf t) := by
 unfold sizeOf; exact (steady_typeInfo t).bind fun _ => steady_pure _
theorem steady_isAgg (t : TypeId) : Steady P K (isAgg t) := by
 unfold isAgg; refine (steady_underlying t).bind fun d => ?_
 split <;> exact steady_pure _
theorem steady_zero (t : TypeId) : Steady P K (zeroValue t) := by
 unfold zeroValue; refine (steady_typeInfo t).bind fun d => ?_
 split
 ·
  exact steady_pure _
 ·
  exact steady_unsup _
theorem steady_part (t : TypeId) (cs : Array Value) (off : Nat) : Steady P K (part t cs off) := by
 unfold part; refine (steady_isAgg t).bind fun b => ?_
 split
 ·
  exact (steady_sizeOf t).bind fun _ => steady_pure _
 ·
  split
  ·
   exact steady_pure _
  ·
   exact steady_stuck _
theorem steady_asAgg (v : Value) : Steady P K (asAgg v) := by
 unfold asAgg
 split
 ·
  exact steady_pure _
 ·
  exact steady_stuck _
theorem steady_asBool (v : Value) : Steady P K (asBool v) := by
 unfold asBool
 split
 ·
  exact steady_pure _
 ·
  exact steady_stuck _
theorem steady_asIntOf (v : Value) : Steady P K (asIntOf v) := by
 unfold asIntOf
 split
 ·
  exact steady_pure _
 ·
  exact steady_unsup _
 ·
  exact steady_stuck _
theorem steady_sure (v : Value) : Steady P K (Instr.sureAddr v) := by
 unfold Instr.sureAddr
 split
 ·
  exact steady_pure _
 ·
  exact steady_stuck _
theorem never_panic {α : Type} (e : RuntimeError) : Never P (runtimePanic e : Sem α) := by
 unfold runtimePanic; refine Never.bind fun p => ?_
 cases e <;> first
  | exact never_halt _
  | (refine Never.bind fun _ => Never.bind fun _ => ?_; exact never_halt _)
  | (refine Never.bind fun _ => ?_; exact never_halt _)
theorem never_bounds {α : Type} (k : IntKind) (x y : Int) (c : BoundsCode) : Never P (boundsPanic k x y c : Sem α) := by
 unfold boundsPanic; dsimp only
 split <;> exact Never.bind fun _ => never_panic _
theorem steady_asAddr (v : Value) : Steady P K (asAddr v) := by
 unfold asAddr
 split
 ·
  exact steady_pure _
 ·
  exact (never_panic _).steady
 ·
  exact steady_stuck _
theorem steady_extract (v : Value) (i : Nat) : Steady P K (Instr.extract v i) := by
 unfold Instr.extract
 split
 ·
  split
  ·
   exact steady_pure _
  ·
   exact steady_stuck _
 ·
  exact steady_stuck _
theorem steady_field (t : TypeId) (v : Value) (i : Nat) : Steady P K (Instr.field t v i) := by
 unfold Instr.field; refine (steady_underlying t).bind fun d => ?_
 split
 ·
  split
  ·
   exact (steady_asAgg _).bind fun _ => steady_part _ _ _
  ·
   exact steady_stuck _
 ·
  exact steady_stuck _
theorem steady_bound (v : Value) (y : Nat) (c : BoundsCode) : Steady P K (Instr.sliceBound v y c) := by
 unfold Instr.sliceBound; refine (steady_asIntOf v).bind fun d => ?_
 split
 split
 ·
  exact steady_pure _
 ·
  exact (never_bounds _ _ _ _).steady
theorem steady_bounds (b : Bool) (l c : Nat) (lo hi mx : Option Value) : Steady P K (Instr.sliceBounds b l c lo hi mx) := by
 unfold Instr.sliceBounds
 repeat' (first | exact steady_pure _ | exact steady_stuck _ | exact steady_unsup _ | exact steady_bound _ _ _ | exact (never_bounds _ _ _ _).steady | exact (never_panic _).steady | exact steady_sizeOf _ | exact steady_underlying _ | exact steady_sure _ | exact steady_asAddr _ | exact steady_asIntOf _ | (refine Steady.bind ?_ fun _ => ?_) | split | dsimp only)
theorem steady_slice (t : TypeId) (x : Value) (lo hi mx : Option Value) : Steady P K (Instr.slice t x lo hi mx) := by
 unfold Instr.slice
 repeat' (first | exact steady_pure _ | exact steady_stuck _ | exact steady_unsup _ | exact steady_bound _ _ _ | exact (never_bounds _ _ _ _).steady | exact (never_panic _).steady | exact steady_sizeOf _ | exact steady_underlying _ | exact steady_sure _ | exact steady_asAddr _ | exact steady_asIntOf _ | exact steady_bounds _ _ _ _ _ _ | (refine Steady.bind ?_ fun _ => ?_) | split | dsimp only)
theorem steady_sliceAt (t : TypeId) (x : Value) (lo hi mx : Option Value) : Steady P K (Instr.sliceAt t x lo hi mx) := by
 unfold Instr.sliceAt
 repeat' (first | exact steady_pure _ | exact steady_stuck _ | exact steady_unsup _ | exact steady_bound _ _ _ | exact (never_bounds _ _ _ _).steady | exact (never_panic _).steady | exact steady_sizeOf _ | exact steady_underlying _ | exact steady_sure _ | exact steady_asAddr _ | exact steady_asIntOf _ | exact steady_bounds _ _ _ _ _ _ | exact steady_slice _ _ _ _ _ | (refine Steady.bind ?_ fun _ => ?_) | split | dsimp only)
theorem steady_indexAt (t : TypeId) (x i : Value) : Steady P K (Instr.indexAt t x i) := by
 unfold Instr.indexAt
 repeat' (first | exact steady_pure _ | exact steady_stuck _ | exact steady_unsup _ | exact steady_bound _ _ _ | exact (never_bounds _ _ _ _).steady | exact (never_panic _).steady | exact steady_sizeOf _ | exact steady_underlying _ | exact steady_sure _ | exact steady_asAddr _ | exact steady_asIntOf _ | exact steady_bounds _ _ _ _ _ _ | exact steady_slice _ _ _ _ _ | (refine Steady.bind ?_ fun _ => ?_) | split | dsimp only)
theorem steady_len (ts : Array TypeId) (t : TypeId) (args : Array Value) (hK : ∀ w w', K w w' → Ext w w') : Steady P K (Builtin.len_ ts t args) := by
 unfold Builtin.len_
 split
 ·
  refine (steady_underlying _).bind fun u => ?_
  have hg : ∀ r, Steady P K (getObj r) := fun r w w' b w1 hk hr => by
   simp only [getObj, Sem.run] at hr ⊢
   have he := hK _ _ hk
   cases hb : w.heap[r]? with
   | none => rw [hb] at hr; cases hr
   | some ob =>
    rw [he.block hb]; rw [hb] at hr
    cases ob <;> first | (cases hr; done) | (cases hr; exact ⟨rfl, rfl⟩)
  split <;> first
   | exact steady_pure _
   | exact steady_stuck _
   | (refine (steady_underlying _).bind fun u => ?_; split <;> first | exact steady_pure _ | exact steady_stuck _)
   | (refine (hg _).bind fun u => ?_; split <;> first | exact steady_pure _ | exact steady_stuck _)
 ·
  exact steady_stuck _
theorem steady_mapM {α β : Type} (f : α → Sem β) (hf : ∀ a, Steady P K (f a)) : ∀ l : List α, Steady P K (l.mapM f)
 | [] => by simp only [List.mapM_nil]; exact steady_pure _
 | a :: l => by
  simp only [List.mapM_cons]; exact (hf a).bind fun _ => (steady_mapM f hf l).bind fun _ => steady_pure _
theorem steady_build (t : TypeId) (ps : Array (Nat × Value)) : Steady P K (Instr.build t ps) := by
 unfold Instr.build; refine (steady_zero t).bind fun z => ?_
 dsimp only; refine (steady_underlying t).bind fun u => ?_
 split
 ·
  refine Steady.bind ?_ fun pl => ?_
  ·
   rw [Array.mapM_eq_mapM_toList]; refine Steady.bind (steady_mapM _ (fun f => (steady_sizeOf _).bind fun _ => steady_pure _) _) fun _ => steady_pure _
  ·
   split
   ·
    exact steady_pure _
   ·
    exact steady_stuck _
 ·
  refine (steady_sizeOf _).bind fun n => ?_
  split
  ·
   exact steady_pure _
  ·
   exact steady_stuck _
 ·
  exact steady_stuck _
theorem steady_intArith (op : BinOp) (k : IntKind) (x y : Int) : Steady P K (Op.intArith op k x y) := by
 unfold Op.intArith
 split <;> first | exact steady_pure _ | exact steady_stuck _
theorem steady_intBits (op : BinOp) (k : IntKind) (x y : Int) : Steady P K (Op.intBits op k x y) := by
 unfold Op.intBits; dsimp only
 split <;> first | exact steady_pure _ | exact steady_stuck _
theorem steady_intCmp (op : BinOp) (x y : Int) : Steady P K (Op.intCmp op x y) := by
 unfold Op.intCmp
 split <;> first | exact steady_pure _ | exact steady_stuck _
theorem steady_intDiv (op : BinOp) (k : IntKind) (x y : Int) : Steady P K (Op.intDiv op k x y) := by
 unfold Op.intDiv
 split
 ·
  exact (never_panic _).steady
 ·
  split <;> first | exact steady_pure _ | exact steady_stuck _
theorem steady_shift (op : BinOp) (k k' : IntKind) (x y : Int) : Steady P K (Op.shift op k x k' y) := by
 unfold Op.shift
 split
 ·
  exact (never_panic _).steady
 ·
  dsimp only
  split <;> first | exact steady_pure _ | exact steady_stuck _
theorem steady_unary (op : UnOp) (x : Value) : Steady P K (Op.unary op x) := by
 unfold Op.unary
 split <;> first | exact steady_pure _ | exact steady_stuck _ | exact steady_unsup _ | exact steady_intArith _ _ _ _ | exact steady_intBits _ _ _ _
def numB0 : Value → Bool
  | .int _ _ | .bool _ | .string _ | .slice _ _ _ | .tuple _ => true
  | _ => false
def numB : Value → Bool
  | .int _ _ | .bool _ | .string _ | .slice _ _ _ | .tuple _ => true
  | .agg a => a.toList.all numB0
  | _ => false
theorem numB_of {v : Value} (h : numB0 v = true) : numB v = true := by cases v <;> simp only [numB0, Bool.false_eq_true] at h <;> rfl
def SteadyR (P : Program) (K : World → World → Prop) {α : Type} (s : Sem α) (R : α → Prop) : Prop :=
  ∀ (w w' : World) (a : α) (w1 : World), K w w' → s.run P w = .ok a w1 → w1 = w ∧ s.run P w' = .ok a w' ∧ R a
theorem SteadyR.bind {α β : Type} {s : Sem α} {f : α → Sem β} {R : α → Prop} (hs : SteadyR P K s R) (hf : ∀ a, R a → Steady P K (f a)) : Steady P K (s >>= f) := by
 intro w w' b w1 hk hr; rw [Sem.run_bind] at hr
 cases hx : s.run P w with
 | ok a w2 =>
  rw [hx] at hr; obtain ⟨rfl, h2, h4⟩ := hs w w' a w2 hk hx; obtain ⟨rfl, h3⟩ := hf a h4 _ w' b w1 hk hr; exact ⟨rfl, by rw [Sem.run_bind, h2]; exact h3⟩
 | halt x w2 => rw [hx] at hr; cases hr
theorem Steady.toR {α : Type} {s : Sem α} {R : α → Prop} (h : Steady P K s) (hr : ∀ w a w1, s.run P w = .ok a w1 → R a) : SteadyR P K s R := fun w w' a w1 hk hq => by
 obtain ⟨h1, h2⟩ := h w w' a w1 hk hq; exact ⟨h1, h2, hr w a w1 hq⟩
theorem part_num {t : TypeId} {cs : Array Value} {off : Nat} (h : cs.toList.all numB0 = true) (w : World) (a : Value) (w1 : World) (hr : (part t cs off).run P w = .ok a w1) : numB a = true := by
 unfold part at hr; rw [Sem.run_bind] at hr
 cases hq : Sem.run P (isAgg t) w with
 | halt x w2 => rw [hq] at hr; cases hr
 | ok b w2 =>
  rw [hq] at hr; replace hr : Sem.run P (if b = true then _ else _) w2 = Result.ok a w1 := hr
  cases b
  ·
   rw [if_neg (by simp)] at hr
   split at hr
   ·
    rename_i v hv
    rw [Sem.run_pure] at hr; cases hr; exact numB_of (List.all_eq_true.1 h _ (Array.mem_toList_iff.2 (Array.mem_of_getElem? hv)))
   ·
    cases hr
  ·
   rw [if_pos rfl, Sem.run_bind] at hr
   cases hz : Sem.run P (sizeOf t) w2 with
   | halt x w3 => rw [hz] at hr; cases hr
   | ok n w3 =>
    rw [hz] at hr; replace hr : Sem.run P (pure (Value.agg (cs.extract off (off + n)))) w3 = Result.ok a w1 := hr; rw [Sem.run_pure] at hr; cases hr; refine List.all_eq_true.2 fun x hx => List.all_eq_true.1 h _ ?_
    rw [Array.toList_extract] at hx; exact List.mem_of_mem_drop (List.mem_of_mem_take hx)
theorem steady_partR (t : TypeId) (cs : Array Value) (off : Nat) (h : cs.toList.all numB0 = true) : SteadyR P K (part t cs off) (fun a => numB a = true) := Steady.toR (steady_part t cs off) (part_num h)
theorem steady_forIn {α β : Type} (f : α → β → Sem (ForInStep β)) (h : ∀ a b, Steady P K (f a b)) : ∀ (l : List α) (b : β), Steady P K (forIn l b f)
 | [], b => by rw [List.forIn_nil]; exact steady_pure _
 | a :: l, b => by
  rw [List.forIn_cons]; refine (h a b).bind fun s => ?_
  split
  ·
   exact steady_pure _
  ·
   exact steady_forIn f h l _
theorem steady_equalIn : ∀ (d : Nat) (t : TypeId) (x y : Value), numB x = true → numB y = true → Steady P K (Op.equalIn d t x y)
 | 0, t, x, y, _, _ => by unfold Op.equalIn; exact steady_unsup _
 | d + 1, t, x, y, hx, hy => by
  have ih := steady_equalIn d; unfold Op.equalIn; refine (steady_underlying t).bind fun u => ?_
  cases x <;> simp only [numB, Bool.false_eq_true] at hx <;> cases y <;> simp only [numB, Bool.false_eq_true] at hy <;> cases u <;> dsimp only <;>
   first
   | exact steady_pure _
   | exact steady_stuck _
   | (split <;> first | exact steady_pure _ | exact steady_stuck _ | contradiction | (split <;> first | exact steady_pure _ | exact steady_stuck _ | contradiction))
   | skip
  ·
   refine (steady_sizeOf _).bind fun n => ?_
   refine Steady.bind (s := forIn [:_] _ _) ?_ fun q => ?_
   ·
    rw [Std.Legacy.Range.forIn_eq_forIn_range']; refine steady_forIn _ (fun i q => ?_) _ _; refine (steady_partR _ _ _ hx).bind fun v1 h1 => (steady_partR _ _ _ hy).bind fun v2 h2 => (ih _ _ _ h1 h2).bind fun c => ?_
    split <;> exact steady_pure _
   ·
    split <;> exact steady_pure _
  ·
   refine steady_program.bind fun p => ?_
   have key : ∀ fs : Array Field, Steady P K (do
     for f in fs do
      if f.name ≠ "_" then
       if !(← Op.equalIn d f.type (← part f.type _ f.offset) (← part f.type _ f.offset)) then return false
     pure true : Sem Bool) := fun fs => by
    refine Steady.bind (s := forIn fs _ _) ?_ fun q => ?_
    ·
     rw [← Array.forIn_toList]; refine steady_forIn _ (fun f q => ?_) _ _
     split
     ·
      refine (steady_partR _ _ _ hx).bind fun v1 h1 => (steady_partR _ _ _ hy).bind fun v2 h2 => (ih _ _ _ h1 h2).bind fun c => ?_
      split <;> exact steady_pure _
     ·
      exact steady_pure _
    ·
     dsimp only
     split <;> exact steady_pure _
   split
   ·
    exact Steady.bind (steady_unsup _) fun _ => key _
   ·
    exact key _
theorem steady_equal (t : TypeId) (x y : Value) (hx : numB x = true) (hy : numB y = true) : Steady P K (Op.equal t x y) := steady_equalIn _ t x y hx hy
theorem steady_eqGuardIn : ∀ (d : Nat) (t : TypeId) (x y : Value), Steady P K (Op.eqGuardIn d t x y)
 | 0, t, x, y => by unfold Op.eqGuardIn; exact steady_unsup _
 | d + 1, t, x, y => by
  have ih := steady_eqGuardIn d; unfold Op.eqGuardIn; refine (steady_underlying t).bind fun u => ?_
  split
  ·
   exact steady_pure _
  ·
   refine Steady.bind (s := forIn _ _ _) ?_ fun q => ?_
   ·
    rw [← Array.forIn_toList]; refine steady_forIn _ (fun f q => ?_) _ _
    split
    ·
     refine (steady_part _ _ _).bind fun v1 => (steady_part _ _ _).bind fun v2 => (ih _ _ _).bind fun c => ?_
     split <;> exact steady_pure _
    ·
     exact steady_pure _
   ·
    dsimp only
    split <;> exact steady_pure _
  ·
   refine (steady_sizeOf _).bind fun n => ?_
   refine Steady.bind (s := forIn [:_] _ _) ?_ fun q => ?_
   ·
    rw [Std.Legacy.Range.forIn_eq_forIn_range']; refine steady_forIn _ (fun i q => ?_) _ _; refine (steady_part _ _ _).bind fun v1 => (steady_part _ _ _).bind fun v2 => (ih _ _ _).bind fun c => ?_
    split <;> exact steady_pure _
   ·
    dsimp only
    split <;> exact steady_pure _
  ·
   exact steady_pure _
theorem steady_eqGuard (op : BinOp) (t : TypeId) (o1 o2 : Operand) (x y : Value) (hx : numB x = true) : Steady P K (eqGuard op t o1 o2 x y) := by
 unfold eqGuard; have hm : ∀ (c : Bool) (s : Sem Unit), Steady P K s → Steady P K (if c = true then pure () else s) := fun c s h => by split <;> first | exact steady_pure _ | exact h
 refine hm _ _ ?_
 split
 ·
  cases hx
 ·
  refine steady_program.bind fun p => steady_program.bind fun q => hm _ _ ?_
  refine (steady_eqGuardIn _ _ _ _).bind fun b => ?_
  split
  ·
   exact steady_unsup _
  ·
   exact steady_pure _
 ·
  exact steady_pure _
theorem steady_stringOp (op : BinOp) (x y : ByteArray) : Steady P K (Op.stringOp op x y) := by
 unfold Op.stringOp; dsimp only
 split <;> first | exact steady_pure _ | exact steady_stuck _ | (split <;> first | exact steady_pure _ | exact steady_unsup _)
theorem steady_binOp (op : BinOp) (t : TypeId) (x y : Value) (hx : numB x = true) (hy : numB y = true) : Steady P K (binOp op t x y) := by
 have he : Steady P K (do pure (Value.bool (← Op.equal t x y)) : Sem Value) := (steady_equal t x y hx hy).bind fun _ => steady_pure _
 have hn : Steady P K (do pure (Value.bool !(← Op.equal t x y)) : Sem Value) := (steady_equal t x y hx hy).bind fun _ => steady_pure _
 unfold binOp
 cases x <;> simp only [numB, Bool.false_eq_true] at hx <;> cases y <;> simp only [numB, Bool.false_eq_true] at hy <;> cases op <;> dsimp only <;>
  first
  | exact he
  | exact hn
  | exact steady_stuck _
  | exact steady_shift _ _ _ _ _
  | exact steady_stringOp _ _ _
  | (split <;> first | exact steady_stuck _ | exact steady_intArith _ _ _ _ | exact steady_intDiv _ _ _ _ | exact steady_intBits _ _ _ _ | exact steady_intCmp _ _ _)
theorem steady_load (a : Addr) (hK : ∀ w w', K w w' → Ext w w') : Steady P K (load a) := by
 intro w w' b w1 hk hr; have he := hK _ _ hk; simp only [load, Sem.run] at hr ⊢
 cases hc : w.cell? a with
 | some v =>
  rw [hc] at hr; rw [he.cell hc]
  cases hr
  exact ⟨rfl, rfl⟩
 | none =>
  rw [hc] at hr; simp only [World.farLoad] at hr
  cases hb : w.heap[a.block]? with
  | none => simp [hb] at hr
  | some ob =>
   rw [hb] at hr
   cases ob <;> simp only at hr <;> try (cases hr; done)
   rename_i at_ u
   have hb' := he.block hb; have hc' : w'.cell? a = none := by simp [World.cell?, hb']
   rw [hc']; simp only [World.farLoad, hb']
   have hs : ∀ r, w.seen P at_ u a (Mode.plain == Mode.atomic) = .ok r → w'.seen P at_ u a (Mode.plain == Mode.atomic) = .ok r := by
    intro r hh; unfold World.seen at hh ⊢
    cases hq : w.heap[at_.block]? with
    | none =>
     exfalso
     simp only [hq, bind, Except.bind] at hh
     repeat' (split at hh)
     all_goals (first | cases hh | skip)
    | some oq =>
     rw [he.block hq]; rw [hq] at hh; exact hh
   have hv : ∀ r, w.viewLoad P at_ u a (Mode.plain == Mode.atomic) = .ok r → w'.viewLoad P at_ u a (Mode.plain == Mode.atomic) = .ok r := by
    intro r hh; unfold World.viewLoad at hh ⊢
    cases hsn : w.seen P at_ u a (Mode.plain == Mode.atomic) with
    | error e => rw [hsn] at hh; cases hh
    | ok q => rw [hsn] at hh; rw [hs q hsn]; exact hh
   cases hl : w.viewLoad P at_ u a (Mode.plain == Mode.atomic) with
   | error e => rw [hl] at hr; cases hr
   | ok r =>
    rw [hl] at hr; rw [hv r hl]; obtain ⟨v, q⟩ := r
    cases hr
    exact ⟨rfl, rfl⟩
theorem steady_loadFrom (a : Addr) (hK : ∀ w w', K w w' → Ext w w') : ∀ (n i : Nat) (acc : Array Value), Steady P K (loadCellsFrom a i n acc)
 | 0, _, _ => steady_pure _
 | n + 1, i, acc => by
  unfold loadCellsFrom; exact (steady_load _ hK).bind fun v => steady_loadFrom a hK n (i + 1) (acc.push v)
theorem steady_loadAt (t : TypeId) (v : Value) (hK : ∀ w w', K w w' → Ext w w') : Steady P K (Instr.loadAt t v) := by
 unfold Instr.loadAt; refine (steady_sure v).bind fun a => ?_
 unfold loadVar; refine (steady_isAgg t).bind fun b => ?_
 split
 ·
  exact (steady_sizeOf t).bind fun n => (steady_loadFrom a hK n 0 #[]).bind fun _ => steady_pure _
 ·
  exact steady_load a hK
def fieldB (P : Program) (s : TypeId) (f : Nat) : Bool := match P.underlying s with
  | some (.struct fs) => match fs[f]? with
    | some fl => match P.info? fl.type with
      | some i => i.size != 0
      | none => false
    | none => false
  | _ => false
theorem steady_fieldAt (s : TypeId) (v : Value) (f : Nat) (h : fieldB P s f = true) : Steady P K (Instr.fieldAt s v f) := by
 intro w w' b w1 hk hr; unfold fieldB at h
 split at h <;> try (cases h; done)
 rename_i fs hu
 split at h <;> try (cases h; done)
 rename_i fl hf
 split at h <;> try (cases h; done)
 rename_i i hi
 have hz : ¬ i.size = 0 := by simpa using h
 have key : ∀ w, (Instr.fieldAt s v f).run P w = (do let a ← Instr.sureAddr v; pure (Value.pointer (some (a.add fl.offset))) : Sem Value).run P w := by
  intro w; unfold Instr.fieldAt
  simp [underlying, program, Sem.run, hu, hf, fieldPlace, sizeOf, typeInfo, hi, hz]
 rw [key] at hr ⊢
 exact ((steady_sure v).bind fun _ => steady_pure _) w w' b w1 hk hr
theorem steady_conv (src dst : TypeId) (x : Value) {k k' : IntKind} (hs : P.underlying src = some (.int k')) (hd : P.underlying dst = some (.int k)) (hx : numB x = true) : Steady P K (convert src dst x) := by
 intro w w' b w1 hk hr; unfold convert at hr ⊢
 have hu : ∀ w, (underlying dst).run P w = .ok (.int k) w := fun w => by simp [underlying, program, Sem.run, hd]
 have hv : ∀ w, (underlying src).run P w = .ok (.int k') w := fun w => by simp [underlying, program, Sem.run, hs]
 simp only [Result.andThen, Sem.run_bind, hu, hv] at hr ⊢
 cases x <;> simp only [numB, Bool.false_eq_true] at hx <;> simp only [Conv.intToInt, unsupported, Sem.run_pure, Sem.run_halt] at hr ⊢ <;>
  first | (cases hr; exact ⟨rfl, rfl⟩) | (cases hr; done)
def kindOp (P : Program) : Op → Nat
  | .move _ | .assign _ | .pick .. | .field .. | .indexAddr .. | .slice .. | .extract .. | .unOp .. | .build .. | .binOp .. => 2
  | .fieldAddr s _ f => if fieldB P s f then 2 else 0
  | .convert s d _ => match P.underlying s, P.underlying d with
    | some (.int _), some (.int _) => 2
    | _, _ => 0
  | .load .. => 1
  | .call { callee := .builtin .len, .. } => 1
  | _ => 0
def numOk (ρ : Operand → Value) : Op → Bool
  | .binOp _ _ x y _ => numB (ρ x) && numB (ρ y)
  | .convert _ _ x => numB (ρ x)
  | _ => true
theorem steady_exec (ρ : Operand → Value) (o : Oper) (hk : kindOp P o.op = 2 ∨ (kindOp P o.op = 1 ∧ ∀ w w', K w w' → Ext w w')) (hn : numOk ρ o.op = true) : Steady P K (execOp ρ o) := by
 unfold execOp; have v : ∀ s : Sem Value, Steady P K s → Steady P K (do pure (Next.value (← s)) : Sem Next) := fun s hs => hs.bind fun _ => steady_pure _
 cases ho : o.op <;> simp only [ho, kindOp, numOk] at hk hn ⊢ <;> try (simp at hk; done)
 case pick c a b => exact (steady_asBool _).bind fun _ => steady_pure _
 case move x => exact steady_pure _
 case assign x => exact steady_pure _
 case field t x f => exact v _ (steady_field _ _ _)
 case indexAddr t x i => exact v _ (steady_indexAt _ _ _)
 case slice t x lo hi mx => exact v _ (steady_sliceAt _ _ _ _ _)
 case extract t i => exact v _ (steady_extract _ _)
 case unOp op t x => exact v _ (steady_unary _ _)
 case build t ps => exact v _ (steady_build _ _)
 case binOp op t x y z =>
  simp only [Bool.and_eq_true] at hn; exact v _ ((steady_eqGuard _ _ _ _ _ _ hn.1).bind fun _ => steady_binOp _ _ _ _ hn.1 hn.2)
 case fieldAddr s x f =>
  by_cases hf : fieldB P s f = true
  ·
   exact v _ (steady_fieldAt _ _ _ hf)
  ·
   simp [hf] at hk
 case convert s d x =>
  cases hs : P.underlying s with
  | none => simp [hs] at hk
  | some us =>
   cases us <;> simp [hs] at hk
   cases hd : P.underlying d with
   | none => simp [hd] at hk
   | some ud =>
    cases ud <;> simp [hd] at hk
    exact v _ (steady_conv _ _ _ hs hd hn)
 case load t x =>
  have hK : ∀ w w', K w w' → Ext w w' := by simpa using hk
  exact v _ (steady_loadAt _ _ hK)
 case call c =>
  obtain ⟨callee, args, argTypes⟩ := c
  cases callee with
  | builtin b =>
   cases b <;> simp at hk
   exact v _ (steady_len _ _ _ hk)
  | value f => simp at hk
  | invoke r m => simp at hk
theorem valued (ρ : Operand → Value) (o : Oper) (hk : kindOp P o.op ≠ 0) {w w' : World} {n : Next} (h : (execOp ρ o).run P w = .ok n w') : ∃ v, n = .value v := by
 have v : ∀ s : Sem Value, (do pure (Next.value (← s)) : Sem Next).run P w = .ok n w' → ∃ v, n = .value v := by
  intro s hs; rw [Sem.run_bind] at hs
  cases hx : s.run P w with
  | ok a w2 => rw [hx] at hs; cases hs; exact ⟨_, rfl⟩
  | halt x w2 => rw [hx] at hs; cases hs
 unfold execOp at h
 cases ho : o.op <;> simp only [ho, kindOp] at hk h <;> first | exact v _ h | (simp at hk; done) | skip
 case move x => cases h; exact ⟨_, rfl⟩
 case assign x => cases h; exact ⟨_, rfl⟩
 case pick c a b =>
  rw [Sem.run_bind] at h
  cases hx : (asBool (ρ c)).run P w with
  | ok a w2 => rw [hx] at h; cases h; exact ⟨_, rfl⟩
  | halt x w2 => rw [hx] at h; cases h
 case call c =>
  obtain ⟨callee, args, argTypes⟩ := c
  cases callee with
  | builtin b =>
   cases b <;> simp at hk
   exact v _ h
  | value f => simp at hk
  | invoke r m => simp at hk
end
end
end Go.Proofs.YtcpfmhgfaliemaaGreat
