/- Ownership of slices whose elements may hold slices of their own: what a row owns is a set of blocks. No condition. -/
import Derived.Test.YtkolfiedakojoaaBlk
import Derived.Maps.AppendAt
namespace Go.Proofs.Ytkolfiedakojoaa
open Go.ChangeShapes Go.WideShapes Go.ChangeAt Go.RowKit Go.Deep

/-- w' is w with new blocks, draws, and writes to the blocks of S alone. -/
structure Chg (S : Nat → Prop) (w w' : World) : Prop where
  os : w'.os = w.os
  tape : w'.tape = w.tape
  output : w'.output = w.output
  size : w.heap.size ≤ w'.heap.size
  block : ∀ k, k < w.heap.size → ¬ S k → w'.heap[k]? = w.heap[k]?

def noB : Nat → Prop := fun _ => False
def rng (lo hi : Nat) : Nat → Prop := fun b => lo ≤ b ∧ b < hi

theorem Chg.refl (S : Nat → Prop) (w : World) : Chg S w w := ⟨rfl, rfl, rfl, Nat.le_refl _, fun _ _ _ => rfl⟩
theorem Chg.trans {S : Nat → Prop} {a b c : World} (h : Chg S a b) (k : Chg S b c) : Chg S a c :=
  ⟨k.os.trans h.os, k.tape.trans h.tape, k.output.trans h.output, Nat.le_trans h.size k.size, fun i hi hn => (k.block i (Nat.lt_of_lt_of_le hi h.size) hn).trans (h.block i hi hn)⟩
theorem Chg.mono {S T : Nat → Prop} {a b : World} (h : Chg S a b) (hs : ∀ k, S k → T k) : Chg T a b := ⟨h.os, h.tape, h.output, h.size, fun i hi hn => h.block i hi (fun hk => hn (hs i hk))⟩
theorem Chg.ofExt {S : Nat → Prop} {a b : World} (h : Ext a b) : Chg S a b := ⟨h.below.os, h.below.tape, h.below.output, h.size, fun i hi _ => h.below.block i hi⟩
theorem Chg.ofGrown {S : Nat → Prop} {a b : World} {row : Option Nat} (h : a.grownBy b row) (hs : ∀ k, row = some k → S k) : Chg S a b :=
  ⟨h.os, h.tape, h.output, h.size, fun i hi hn => h.block i hi (fun e => hn (hs i e.symm))⟩
theorem Ext.chg {S : Nat → Prop} {a b c : World} (h : Ext a b) (k : Chg S b c) (hs : ∀ i, S i → a.heap.size ≤ i) : Ext a c :=
  ⟨k.os.trans h.below.os, k.tape.trans h.below.tape, k.output.trans h.below.output, Nat.le_trans h.size k.size,
    fun i hi => (k.block i (Nat.lt_of_lt_of_le hi h.size) (fun hk => by have := hs i hk; omega)).trans (h.below.block i hi)⟩

theorem OwnF.to0 {α : Type} {n : Nat} {f : α → List Value} {base : Nat} {e : TypeId} {w : World} {v : Value} {l : List α} (h : OwnF f n base e w v l) : OwnF f n 0 e w v l := h.mono (Nat.zero_le _)
theorem OwnF.chg {α : Type} {n : Nat} {f : α → List Value} {base : Nat} {e : TypeId} {w w' : World} {v : Value} {l : List α} {S : Nat → Prop} (h : OwnF f n base e w v l) (c : Chg S w w') (hs : ∀ k, v.ownBlock = some k → ¬ S k) : OwnF f n base e w' v l := by
  obtain ⟨h1, h2⟩ := h
  refine ⟨h1, ?_⟩
  rcases h2 with h2 | ⟨g, cap, cur, rfl, hb, hg, r⟩
  · exact .inl h2
  · exact .inr ⟨g, cap, cur, rfl, hb, (c.block g (blk_lt hg) (hs g rfl)).trans hg, r⟩

/-- A way to own a slice of data. -/
structure Own (α : Type) where
  rep : Rep α
  own : (Nat → Prop) → World → Value → List α → Prop
  rd : ∀ {S : Nat → Prop} {w : World} {v : Value} {l : List α}, own S w v l → RdS rep w v l
  mono : ∀ {S T : Nat → Prop} {w : World} {v : Value} {l : List α}, own S w v l → (∀ b, S b → T b) → own T w v l
  kept : ∀ {S T : Nat → Prop} {w w' : World} {v : Value} {l : List α}, own S w v l → Chg T w w' → (∀ b, S b → ¬ T b) → own S w' v l
  nil : ∀ (w : World), own noB w (.slice none 0 0) []
  inb : ∀ {S : Nat → Prop} {w : World} {v : Value} {l : List α}, own S w v l → own (fun b => S b ∧ b < w.heap.size) w v l

theorem Own.ext {α : Type} {O : Own α} {S : Nat → Prop} {w w' : World} {v : Value} {l : List α} (h : O.own S w v l) (x : Ext w w') : O.own S w' v l :=
  O.kept h (Chg.ofExt (S := noB) x) (fun _ _ h => h)

def Own.flat {α : Type} (f : α → List Value) (n : Nat) (hf : ∀ a, (f a).length = n) (e : TypeId) : Own α where
  rep := Rep.flat n f hf
  own S w v l := OwnF f n 0 e w v l ∧ ∀ k, v.ownBlock = some k → S k
  rd h := OwnF.rd h.1
  mono h hs := ⟨h.1, fun k hk => hs k (h.2 k hk)⟩
  kept h c hs := ⟨h.1.chg c (fun k hk => hs k (h.2 k hk)), h.2⟩
  nil w := ⟨OwnF.nil _ _ _ _ _, (fun k hk => by simp [Value.ownBlock] at hk)⟩
  inb h := ⟨h.1, fun k hk => ⟨h.2 k hk, (h.1.block k hk).2⟩⟩

theorem Own.ofF {α : Type} {f : α → List Value} {n : Nat} {hf : ∀ a, (f a).length = n} {e : TypeId} {base : Nat} {w : World} {v : Value} {l : List α} (h : OwnF f n base e w v l) : (Own.flat f n hf e).own (rng base w.heap.size) w v l :=
  ⟨h.to0, fun k hk => h.block k hk⟩

/-- An element with the value of its inner slice, and what that owns. -/
structure Cap (α : Type) where
  dat : α
  val : Value
  set : Nat → Prop

def capF {α : Type} (c : α → Value → List Value) (q : Cap α) : List Value := c q.dat q.val

/-- Slices whose elements hold one slice each. -/
def Own.nest {α β : Type} (n : Nat) (c : α → Value → List Value) (hc : ∀ a v, (c a v).length = n) (sub : α → List β) (e : TypeId) (I : Own β) : Own α where
  rep := { cells := n
           rd := fun w cs a => ∃ v, cs = c a v ∧ RdS I.rep w v (sub a)
           len := by rintro w cs a ⟨v, rfl, _⟩; exact hc _ _
           ext := by rintro w w' cs a x ⟨v, rfl, h⟩; exact ⟨v, rfl, h.ext x⟩ }
  own S w v l := ∃ qs : List (Cap α), qs.map (·.dat) = l ∧ OwnF (capF c) n 0 e w v qs ∧ (∀ k, v.ownBlock = some k → S k) ∧
    (∀ q ∈ qs, I.own q.set w q.val (sub q.dat) ∧ ∀ b, q.set b → S b ∧ v.ownBlock ≠ some b ∧ b < w.heap.size) ∧
    ∀ (i j : Nat) (hi : i < qs.length) (hj : j < qs.length), i ≠ j → ∀ b, qs[i].set b → ¬ qs[j].set b
  rd := by
    rintro S w v l ⟨qs, rfl, ho, _, hq, _⟩
    obtain ⟨o, cap, rfl, h1, h2, h3, h4⟩ := OwnF.rd (hf := fun q : Cap α => hc q.dat q.val) ho
    refine ⟨o, cap, by simp, by simpa using h1, h2, h3, fun i hi => ?_⟩
    have hi' : i < qs.length := by simpa using hi
    obtain ⟨b, off, cs, e1, e2, e3⟩ := h4 i hi'
    refine ⟨b, off, cs, e1, e2, ?_⟩
    cases e3
    exact ⟨qs[i].val, by simp, by simpa using I.rd (hq qs[i] (List.getElem_mem _)).1⟩
  mono := by
    rintro S T w v l ⟨qs, rfl, ho, h1, hq, hd⟩ hs
    exact ⟨qs, rfl, ho, fun k hk => hs k (h1 k hk), fun q h => ⟨(hq q h).1, fun b hb => ⟨hs b ((hq q h).2 b hb).1, ((hq q h).2 b hb).2⟩⟩, hd⟩
  kept := by
    rintro S T w w' v l ⟨qs, rfl, ho, h1, hq, hd⟩ c hs
    refine ⟨qs, rfl, ho.chg c (fun k hk => hs k (h1 k hk)), h1, fun q h => ⟨I.kept (hq q h).1 c (fun b hb => hs b ((hq q h).2 b hb).1), fun b hb => ?_⟩, hd⟩
    obtain ⟨x, y, z⟩ := (hq q h).2 b hb
    exact ⟨x, y, Nat.lt_of_lt_of_le z c.size⟩
  nil w := ⟨[], rfl, OwnF.nil _ _ _ _ _, (fun k hk => by simp [Value.ownBlock] at hk), (fun q h => by cases h), (fun i j hi => by cases hi)⟩
  inb := by
    rintro S w v l ⟨qs, rfl, ho, h1, hq, hd⟩
    refine ⟨qs, rfl, ho, fun k hk => ⟨h1 k hk, (ho.block k hk).2⟩, fun q h => ⟨(hq q h).1, fun b hb => ?_⟩, hd⟩
    obtain ⟨x, y, z⟩ := (hq q h).2 b hb
    exact ⟨⟨x, z⟩, y, z⟩

theorem ownBlock_slice (g m cap : Nat) : (Value.slice (some ⟨g, 0, none⟩) m cap).ownBlock = some g := rfl

section
variable {α β : Type} {n : Nat} {c : α → Value → List Value} {hc : ∀ a v, (c a v).length = n} {sub : α → List β} {e : TypeId} {I : Own β}

theorem nest_len {S : Nat → Prop} {w : World} {o : Option Addr} {m cap : Nat} {l : List α} (h : (Own.nest n c hc sub e I).own S w (.slice o m cap) l) : m = l.length := by
  obtain ⟨qs, rfl, ho, _⟩ := h
  simpa using ho.len
theorem nest_shape {S : Nat → Prop} {w : World} {v : Value} {l : List α} (h : (Own.nest n c hc sub e I).own S w v l) (hl : 0 < l.length) : ∃ g cap, v = .slice (some ⟨g, 0, none⟩) l.length cap ∧ S g ∧ g < w.heap.size := by
  obtain ⟨qs, rfl, ho, hs, _⟩ := h
  obtain ⟨g, cap, rfl, _, hg⟩ := ho.some_shape (by simpa using hl)
  exact ⟨g, cap, by simp, hs g rfl, hg⟩
theorem nest_free {S : Nat → Prop} {w : World} {g m cap : Nat} {l : List α} (h : (Own.nest n c hc sub e I).own S w (.slice (some ⟨g, 0, none⟩) m cap) l) (j : Nat) : w.frozen? ⟨g, j, none⟩ = false := by
  obtain ⟨qs, rfl, ho, _⟩ := h
  exact ho.free j

/-- A row of zeros. -/
theorem nest_zero (z : α) (hz : sub z = []) {w : World} {g m cap : Nat} (ho : OwnF (capF c) n 0 e w (.slice (some ⟨g, 0, none⟩) m cap) (List.replicate m ⟨z, .slice none 0 0, noB⟩)) (S : Nat → Prop) (hS : S g) :
    (Own.nest n c hc sub e I).own S w (.slice (some ⟨g, 0, none⟩) m cap) (List.replicate m z) := by
  refine ⟨_, by simp, ho, (fun k hk => by cases hk; exact hS), fun q hq => ?_, fun i j hi hj hne b hb => ?_⟩
  · obtain ⟨_, rfl⟩ := List.mem_replicate.1 hq
    exact ⟨by rw [hz]; exact I.nil w, fun b hb => hb.elim⟩
  · simp at hb; exact hb.elim

/-- The kth element, and what becomes of the row if the inner slice's cells are written in place. -/
theorem nest_at {S : Nat → Prop} {w : World} {g m cap : Nat} {l : List α} (h : (Own.nest n c hc sub e I).own S w (.slice (some ⟨g, 0, none⟩) m cap) l) (k : Nat) (hk : k < l.length) :
    ∃ (hv : Value) (T : Nat → Prop), (∀ j u, (c l[k] hv)[j]? = some u → w.cell? ⟨g, k * n + j, none⟩ = some u) ∧ I.own T w hv (sub l[k]) ∧ (∀ b, T b → S b ∧ b ≠ g ∧ b < w.heap.size) ∧
      (∀ (w' : World) (x : α), Chg T w w' → I.own T w' hv (sub x) → c x hv = c l[k] hv → (Own.nest n c hc sub e I).own S w' (.slice (some ⟨g, 0, none⟩) m cap) (l.set k x)) := by
  obtain ⟨qs, rfl, ho, hS, hq, hd⟩ := h
  have hk' : k < qs.length := by simpa using hk
  have hcell := OwnF.cells_flat (fun q : Cap α => hc q.dat q.val) ho k hk'
  obtain ⟨hi, hb⟩ := hq qs[k] (List.getElem_mem _)
  refine ⟨qs[k].val, qs[k].set, by simpa [capF] using hcell, by simpa using hi, fun b h => ⟨(hb b h).1, fun e => (hb b h).2.1 (by rw [e]; rfl), (hb b h).2.2⟩, fun w' x hch hown hcx => ?_⟩
  have hqs : (qs.set k ⟨x, qs[k].val, qs[k].set⟩).flatMap (capF c) = qs.flatMap (capF c) := by
    have h1 : capF c ⟨x, qs[k].val, qs[k].set⟩ = capF c qs[k] := by simpa [capF] using hcx
    have h2 : ∀ (qs : List (Cap α)) (k : Nat) (hk : k < qs.length) (y : Cap α), capF c y = capF c qs[k] → (qs.set k y).flatMap (capF c) = qs.flatMap (capF c) := by
      intro qs
      induction qs with
      | nil => intro k hk; cases hk
      | cons a qs ih =>
        intro k hk y hy
        cases k with
        | zero => simp only [List.set_cons_zero, List.flatMap_cons, List.getElem_cons_zero] at hy ⊢; rw [hy]
        | succ k => simp only [List.set_cons_succ, List.flatMap_cons, List.getElem_cons_succ] at hy ⊢; rw [ih k (by simpa using hk) y hy]
    exact h2 qs k hk' _ h1
  have ho' : OwnF (capF c) n 0 e w' (.slice (some ⟨g, 0, none⟩) m cap) (qs.set k ⟨x, qs[k].val, qs[k].set⟩) := by
    have := ho.chg hch (fun b hb' hT => (hb b hT).2.1 hb')
    unfold OwnF at this ⊢
    rw [hqs, List.length_set]
    exact this
  refine ⟨qs.set k ⟨x, qs[k].val, qs[k].set⟩, by simp [List.map_set], ho', hS, fun q hqm => ?_, fun i j hi hj hne b hbi => ?_⟩
  · obtain ⟨i, hi, rfl⟩ := List.getElem_of_mem hqm
    rw [List.getElem_set]
    by_cases hki : k = i
    · subst hki
      simp only [if_pos]
      exact ⟨hown, fun b hbb => ⟨(hb b hbb).1, (hb b hbb).2.1, Nat.lt_of_lt_of_le (hb b hbb).2.2 hch.size⟩⟩
    · rw [if_neg hki]
      have hi' : i < qs.length := by simpa using hi
      obtain ⟨a1, a2⟩ := hq qs[i] (List.getElem_mem _)
      refine ⟨I.kept a1 hch (fun b hbb => hd i k hi' hk' (fun e => hki e.symm) b hbb), fun b hbb => ?_⟩
      obtain ⟨x1, x2, x3⟩ := a2 b hbb
      exact ⟨x1, x2, Nat.lt_of_lt_of_le x3 hch.size⟩
  · have hi' : i < qs.length := by simpa using hi
    have hj' : j < qs.length := by simpa using hj
    rw [List.getElem_set] at hbi ⊢
    have s1 : qs[i].set b := by
      by_cases e1 : k = i
      · subst e1; simpa using hbi
      · rw [if_neg e1] at hbi; exact hbi
    have s2 := hd i j hi' hj' hne b s1
    by_cases e2 : k = j
    · subst e2; simpa using s2
    · rw [if_neg e2]; exact s2

/-- The kth element is replaced by one whose inner slice is new. -/
theorem nest_put {S S' T : Nat → Prop} {w w1 w2 : World} {g m cap : Nat} {l : List α} (h : (Own.nest n c hc sub e I).own S w (.slice (some ⟨g, 0, none⟩) m cap) l) (k : Nat) (hk : k < l.length) (x : α) (hv : Value)
    (hx : Ext w w1) (hi : I.own T w1 hv (sub x)) (hT : ∀ b, T b → S' b ∧ w.heap.size ≤ b ∧ b < w1.heap.size) (hS' : ∀ b, S b → S' b) (hg : w1.grownBy w2 (some g))
    (hrow : ∀ (qs : List (Cap α)), qs.map (·.dat) = l → OwnF (capF c) n 0 e w1 (.slice (some ⟨g, 0, none⟩) m cap) qs → OwnF (capF c) n 0 e w2 (.slice (some ⟨g, 0, none⟩) m cap) (qs.set k ⟨x, hv, T⟩)) :
    (Own.nest n c hc sub e I).own S' w2 (.slice (some ⟨g, 0, none⟩) m cap) (l.set k x) := by
  obtain ⟨qs, rfl, ho, hS, hq, hd⟩ := h
  have hgs : g < w.heap.size := (ho.block g rfl).2
  have hch : Chg (fun b => b = g) w1 w2 := Chg.ofGrown hg (fun k hk => by cases hk; rfl)
  refine ⟨qs.set k ⟨x, hv, T⟩, by simp [List.map_set], hrow qs rfl (ho.ext hx), fun b hb => hS' b (hS b hb), fun q hqm => ?_, fun i j hi' hj' hne b hbi => ?_⟩
  · obtain ⟨i, hil, rfl⟩ := List.getElem_of_mem hqm
    rw [List.getElem_set]
    by_cases hki : k = i
    · subst hki
      simp only [if_pos]
      refine ⟨I.kept hi hch (fun b hb e => by have := hT b hb; omega), fun b hb => ⟨(hT b hb).1, fun e => ?_, Nat.lt_of_lt_of_le (hT b hb).2.2 hch.size⟩⟩
      have : g = b := by simpa [Value.ownBlock] using e
      have := hT b hb
      omega
    · rw [if_neg hki]
      have hi' : i < qs.length := by simpa using hil
      obtain ⟨a1, a2⟩ := hq qs[i] (List.getElem_mem _)
      refine ⟨I.kept (Own.ext a1 hx) hch (fun b hbb e => (a2 b hbb).2.1 (by rw [e]; rfl)), fun b hbb => ?_⟩
      obtain ⟨x1, x2, x3⟩ := a2 b hbb
      exact ⟨hS' b x1, x2, Nat.lt_of_lt_of_le x3 (Nat.le_trans hx.size hch.size)⟩
  · have hi2 : i < qs.length := by simpa using hi'
    have hj2 : j < qs.length := by simpa using hj'
    rw [List.getElem_set] at hbi ⊢
    by_cases e1 : k = i
    · subst e1
      simp only [if_pos] at hbi
      rw [if_neg hne]
      intro h3
      have := ((hq qs[j] (List.getElem_mem _)).2 b h3).2.2
      have := hT b hbi
      omega
    · rw [if_neg e1] at hbi
      by_cases e2 : k = j
      · subst e2
        simp only [if_pos]
        intro h3
        have := ((hq qs[i] (List.getElem_mem _)).2 b hbi).2.2
        have := hT b h3
        omega
      · rw [if_neg e2]
        exact hd i j hi2 hj2 hne b hbi

/-- An element whose inner slice is new is appended. -/
theorem nest_push {S S' T : Nat → Prop} {w w1 w2 : World} {v v' : Value} {l : List α} (qs : List (Cap α)) (x : α) (hv : Value)
    (hl : qs.map (·.dat) = l) (hS : ∀ k, v.ownBlock = some k → S k)
    (hq : ∀ q ∈ qs, I.own q.set w q.val (sub q.dat) ∧ ∀ b, q.set b → S b ∧ v.ownBlock ≠ some b ∧ b < w.heap.size)
    (hd : ∀ (i j : Nat) (hi : i < qs.length) (hj : j < qs.length), i ≠ j → ∀ b, qs[i].set b → ¬ qs[j].set b)
    (hvb : ∀ k, v.ownBlock = some k → k < w.heap.size)
    (hx : Ext w w1) (hi : I.own T w1 hv (sub x)) (hT : ∀ b, T b → S' b ∧ w.heap.size ≤ b ∧ b < w1.heap.size) (hS' : ∀ b, S b → S' b) (hg : w1.grownBy w2 v.ownBlock)
    (hat : v'.ownBlock = v.ownBlock ∨ ∃ k, v'.ownBlock = some k ∧ w1.heap.size ≤ k ∧ S' k) (ho : OwnF (capF c) n 0 e w2 v' (qs ++ [⟨x, hv, T⟩])) :
    (Own.nest n c hc sub e I).own S' w2 v' (l ++ [x]) := by
  subst hl
  have hch : Chg (fun b => v.ownBlock = some b) w1 w2 := Chg.ofGrown hg (fun k hk => hk)
  have hne : ∀ b, b < w1.heap.size → v.ownBlock ≠ some b → v'.ownBlock ≠ some b := by
    intro b hb hn
    rcases hat with h1 | ⟨k, h1, h2, _⟩
    · rw [h1]; exact hn
    · rw [h1]; intro e; cases e; omega
  refine ⟨qs ++ [⟨x, hv, T⟩], by simp, ho, fun k hk => ?_, fun q hqm => ?_, fun i j hi' hj' hne' b hbi => ?_⟩
  · rcases hat with h1 | ⟨k', h1, h2, h3⟩
    · rw [h1] at hk; exact hS' k (hS k hk)
    · rw [h1] at hk; cases hk; exact h3
  · rcases List.mem_append.1 hqm with h1 | h1
    · obtain ⟨a1, a2⟩ := hq q h1
      refine ⟨I.kept (Own.ext a1 hx) hch (fun b hb => (a2 b hb).2.1), fun b hb => ?_⟩
      obtain ⟨x1, x2, x3⟩ := a2 b hb
      exact ⟨hS' b x1, hne b (Nat.lt_of_lt_of_le x3 hx.size) x2, Nat.lt_of_lt_of_le x3 (Nat.le_trans hx.size hch.size)⟩
    · obtain rfl := List.mem_singleton.1 h1
      have hnb : ∀ b, T b → v.ownBlock ≠ some b := fun b hb e => by have := hvb b e; have := hT b hb; omega
      refine ⟨I.kept hi hch hnb, fun b hb => ⟨(hT b hb).1, hne b (hT b hb).2.2 (hnb b hb), Nat.lt_of_lt_of_le (hT b hb).2.2 hch.size⟩⟩
  · simp only [List.length_append, List.length_singleton] at hi' hj'
    rcases Nat.lt_or_ge i qs.length with e1 | e1
    · rw [List.getElem_append_left e1] at hbi
      rcases Nat.lt_or_ge j qs.length with e2 | e2
      · rw [List.getElem_append_left e2]; exact hd i j e1 e2 hne' b hbi
      · rw [List.getElem_append_right e2]
        have : j - qs.length = 0 := by omega
        simp only [this, List.getElem_cons_zero]
        intro h3
        have := ((hq qs[i] (List.getElem_mem _)).2 b hbi).2.2
        have := hT b h3
        omega
    · rw [List.getElem_append_right e1] at hbi
      have h0 : i - qs.length = 0 := by omega
      simp only [h0, List.getElem_cons_zero] at hbi
      have e2 : j < qs.length := by omega
      rw [List.getElem_append_left e2]
      intro h3
      have := ((hq qs[j] (List.getElem_mem _)).2 b h3).2.2
      have := hT b hbi
      omega
end
end Go.Proofs.Ytkolfiedakojoaa
