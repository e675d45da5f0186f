/- Worlds in which only a cursor's block was written: what reads the same in them, and regions that draw their order among calls that move the cursor. No condition. -/
import Derived.Test.YtkolfiedakojoaaOwn
import Derived.Test.YtkolfiedakojoaaSched
namespace Go.Proofs.Ytkolfiedakojoaa
open Go.ChangeShapes Go.WideShapes Go.ChangeAt Go.RowKit Go.Deep

def at1 (g : Nat) : Nat → Prop := fun b => b = g
theorem Chg.up {g : Nat} {S : Nat → Prop} {a b c : World} (h : Chg (at1 g) a b) (k : Chg S b c) (hs : ∀ i, S i → i = g ∨ a.heap.size ≤ i) : Chg (at1 g) a c :=
  ⟨k.os.trans h.os, k.tape.trans h.tape, k.output.trans h.output, Nat.le_trans h.size k.size, fun i hi hn =>
    (k.block i (Nat.lt_of_lt_of_le hi h.size) (fun hk => by rcases hs i hk with e | e; exact hn e; omega)).trans (h.block i hi hn)⟩
theorem Chg.ext {g : Nat} {a b c : World} (h : Chg (at1 g) a b) (k : Ext b c) : Chg (at1 g) a c := h.trans (Chg.ofExt k)
theorem Chg.blkS {S : Nat → Prop} {a b : World} (h : Chg S a b) {k : Nat} {o : Obj} (hb : a.heap[k]? = some o) (hn : ¬ S k) : b.heap[k]? = some o :=
  (h.block k (blk_lt hb) hn).trans hb
theorem Chg.cell {S : Nat → Prop} {a b : World} (h : Chg S a b) {p : Addr} {v : Value} (hc : a.cell? p = some v) (hn : ¬ S p.block) : b.cell? p = some v :=
  (World.cell?_of_block (w := a) (h.block p.block (World.block_lt_of_cell? a p hc) hn)).trans hc
/-- From outside: a call whose cursor is its own. -/
theorem Ext.ofCur {a b c : World} {g : Nat} (h : Ext a b) (k : Chg (at1 g) b c) (hg : a.heap.size ≤ g) : Ext a c := h.chg k (fun i hi => by have h1 : i = g := hi; omega)

/-- What reads the same whatever becomes of block g. -/
def St {α : Type} (g : Nat) (r : Rep α) (w : World) (v : Value) (l : List α) : Prop := ∀ w', Chg (at1 g) w w' → RdS r w' v l
theorem St.rd {α : Type} {g : Nat} {r : Rep α} {w : World} {v : Value} {l : List α} (h : St g r w v l) : RdS r w v l := h w (Chg.refl _ _)
theorem St.step {α : Type} {g : Nat} {r : Rep α} {w w' : World} {v : Value} {l : List α} (h : St g r w v l) (c : Chg (at1 g) w w') : St g r w' v l := fun w2 c2 => h w2 (c.trans c2)
theorem St.ext {α : Type} {g : Nat} {r : Rep α} {w w' : World} {v : Value} {l : List α} (h : St g r w v l) (c : Ext w w') : St g r w' v l := h.step (Chg.ofExt c)
theorem St.ofOwn {α : Type} {O : Own α} {g : Nat} {S : Nat → Prop} {w : World} {v : Value} {l : List α} (h : O.own S w v l) (hg : ∀ b, S b → b ≠ g) : St g O.rep w v l := fun _ c => O.rd (O.kept h c (fun b hb e => hg b hb e))
theorem St.ofF {α : Type} {n : Nat} {f : α → List Value} {hf : ∀ a, (f a).length = n} {g base : Nat} {e : TypeId} {w : World} {v : Value} {l : List α} (h : OwnF f n base e w v l) (hg : g < base) : St g (Rep.flat n f hf) w v l :=
  fun _ c => OwnF.rd (h.chg c (fun k hk e => by have h1 := (h.block k hk).1; have h2 : k = g := e; omega))
theorem St.nil {α : Type} (g : Nat) (r : Rep α) (w : World) : St g r w (.slice none 0 0) [] := fun _ _ => RdS.nil _ _

/-- A world that differs from w at block g alone, or has more blocks. -/
structure ChgW (g : Nat) (w : World) where
  w' : World
  h : Chg (at1 g) w w'
instance (g : Nat) (w : World) : Nonempty (ChgW g w) := ⟨⟨w, Chg.refl _ w⟩⟩
theorem ChgW.cell {g : Nat} {w : World} {p : Addr} {v : Value} (h : w.cell? p = some v) (hn : p.block ≠ g) : ∀ x : ChgW g w, x.w'.cell? p = some v := fun x => x.h.cell h hn
theorem ChgW.out {g : Nat} {w w1 : World} (h : ∃ x : ChgW g w, w1 = x.w') : Chg (at1 g) w w1 := by obtain ⟨y, rfl⟩ := h; exact y.h

section
variable {P : Program} {ops : Array Oper} {Q : Exit → Act → World → Prop}
theorem wp_region_draws {id : Nat} {a : Act} {w : World} (g : Nat) (bs : List (List Nat × Nat)) (tail : List Nat) (hm : P.follows .mixedOrders = true) (hs : Region.noSelect ops = true)
    (hB : (decide ((blocks bs tail).length ≤ ops.size) && bs.all (fun b => decide (b.2 < ops.size)) && schedB ops (blocks bs tail) (Array.replicate ops.size false)) = true)
    (h : wpBlocks P ops (NoPanic Q) (fun w1 => ∃ x : ChgW g w, w1 = x.w') bs tail a w.drew) : (Code.region id ops true).wp P Q a w := by
  simp only [Bool.and_eq_true, List.all_eq_true] at hB
  obtain ⟨⟨h1, h2⟩, h3⟩ := hB
  refine wp_region_noPanic ?_
  exact wp_region_sched (C := fun w1 => ∃ x : ChgW g w, w1 = x.w') (blocks bs tail) hm hs h1 h3 (fun _ _ _ _ _ h => h) ⟨⟨_, Chg.ofExt (Ext.refl w).drew⟩, rfl⟩ (wpSched_blocks bs tail (fun b hb => of_decide_eq_true (h2 b hb)) a w.drew h)
end

/-- A world that differs from w at blocks of S alone, or has more blocks. -/
structure ChgSW (S : Nat → Prop) (w : World) where
  w' : World
  h : Chg S w w'
instance (S : Nat → Prop) (w : World) : Nonempty (ChgSW S w) := ⟨⟨w, Chg.refl _ w⟩⟩
theorem ChgSW.cell {S : Nat → Prop} {w : World} {p : Addr} {v : Value} (h : w.cell? p = some v) (hn : ¬ S p.block) : ∀ x : ChgSW S w, x.w'.cell? p = some v := fun x => x.h.cell h hn
section
variable {P : Program} {ops : Array Oper} {Q : Exit → Act → World → Prop}
theorem wp_region_set {id : Nat} {a : Act} {w : World} (S : Nat → Prop) (bs : List (List Nat × Nat)) (tail : List Nat) (hm : P.follows .mixedOrders = true) (hs : Region.noSelect ops = true)
    (hB : (decide ((blocks bs tail).length ≤ ops.size) && bs.all (fun b => decide (b.2 < ops.size)) && schedB ops (blocks bs tail) (Array.replicate ops.size false)) = true)
    (h : wpBlocks P ops (NoPanic Q) (fun w1 => ∃ x : ChgSW S w, w1 = x.w') bs tail a w.drew) : (Code.region id ops true).wp P Q a w := by
  simp only [Bool.and_eq_true, List.all_eq_true] at hB
  obtain ⟨⟨h1, h2⟩, h3⟩ := hB
  refine wp_region_noPanic ?_
  exact wp_region_sched (C := fun w1 => ∃ x : ChgSW S w, w1 = x.w') (blocks bs tail) hm hs h1 h3 (fun _ _ _ _ _ h => h) ⟨⟨_, Chg.ofExt (Ext.refl w).drew⟩, rfl⟩ (wpSched_blocks bs tail (fun b hb => of_decide_eq_true (h2 b hb)) a w.drew h)
end

theorem and255 (x : Int) : 0 ≤ IntKind.wrap .i64 ((BitVec.ofInt 64 x &&& BitVec.ofInt 64 255).toNat : Int) ∧ IntKind.wrap .i64 ((BitVec.ofInt 64 x &&& BitVec.ofInt 64 255).toNat : Int) ≤ 255 := by
  have h1 : (BitVec.ofInt 64 x &&& BitVec.ofInt 64 255).toNat ≤ 255 := by
    rw [BitVec.toNat_and]
    exact Nat.le_trans Nat.and_le_right (by decide)
  generalize (BitVec.ofInt 64 x &&& BitVec.ofInt 64 255).toNat = n at *
  have : IntKind.wrap .i64 (n : Int) = n := by
    unfold IntKind.wrap
    simp [IntKind.bits, IntKind.signed]
    omega
  omega

/-- A cursor at block g over the bytes v. -/
def Cur (g : Nat) (v : Value) (code : List Int) (w : World) : Prop :=
  (∃ i h : Int, w.heap[g]? = some (.cells #[v, .int .i64 i, .int .i64 h] 168) ∧ 0 ≤ i ∧ i ≤ code.length) ∧ St g Rep.byte w v code ∧ ∀ x ∈ code, U8 x
theorem Cur.ext {g : Nat} {v : Value} {code : List Int} {w w' : World} (h : Cur g v code w) (c : Ext w w') : Cur g v code w' := by
  obtain ⟨⟨i, hh, hb, r⟩, hs, hu⟩ := h
  exact ⟨⟨i, hh, c.block hb, r⟩, hs.ext c, hu⟩
theorem Cur.lt {g : Nat} {v : Value} {code : List Int} {w : World} (h : Cur g v code w) : g < w.heap.size := by
  obtain ⟨⟨i, hh, hb, r⟩, hs, hu⟩ := h
  exact blk_lt hb
/-- Blocks of the call's own were written. -/
theorem Cur.kept {g : Nat} {v : Value} {code : List Int} {w0 w w' : World} {S : Nat → Prop} (h0 : Cur g v code w0) (h : Cur g v code w) (c : Chg S w w') (hn : ¬ S g) (cx : Chg (at1 g) w0 w') : Cur g v code w' := by
  obtain ⟨⟨i, hh, hb, r⟩, hs, hu⟩ := h
  exact ⟨⟨i, hh, c.blkS hb hn, r⟩, h0.2.1.step cx, hu⟩
end Go.Proofs.Ytkolfiedakojoaa
