/- Part 5 of 28 of what the laws FnNoDoorTwice and FnAuthor need: The data of the struct Hop (Hop), how a slice of it reads, and the contracts of the laws' helper functions over it. No condition but the bounds that each theorem names. The data of path parts and paths, how they read, and the contracts of the laws' helper functions over them. No condition but the bounds that each theorem names. The data of the struct Step (Step), how a slice of it reads, and the contracts of the laws' helper functions over it. No condition but the bounds that each theorem names. The plain functions of paths: steps, ends, interfaces. No program in sight. No condition. Contracts of the functions on integers that the laws of this part reach. No condition but the bounds that each theorem names. Contracts of the functions on parts and paths, program and reference. No condition but the bounds that each theorem names. -/
import Derived.Test.YtjmlicmloacmaaaGreatKN1
import Derived.Test.YtjmlicmloacmaaaGreatKN2
import Derived.Test.YtjmlicmloacmaaaGreatKN3
import Derived.Deep.DeepCutAuto
import Derived.Deep.LoopGhost
import Derived.IntWalk
namespace Go.Proofs.YtjmlicmloacmaaaGreat
section
open Go.ChangeShapes Go.WideShapes Go.ChangeAt Go.RowKit Go.Deep

structure Hop where
  asn : Int
  ing : Int
  eg : Int
  exp : Int
  mac : Int
  deriving DecidableEq
def Hop.f (x : Hop) : List Value := [.int .i64 x.asn, .int .i64 x.ing, .int .i64 x.eg, .int .i64 x.exp, .int .i64 x.mac]
theorem Hop.flen (x : Hop) : x.f.length = 5 := rfl
def Hop.rep : Rep Hop := Rep.flat 5 Hop.f Hop.flen
theorem Hop.one (x : Hop) : ∀ u ∈ x.f, u.oneCell' = true := by
  intro u hu
  simp only [Hop.f, List.mem_cons, List.not_mem_nil, or_false] at hu
  rcases hu with rfl | rfl | rfl | rfl | rfl <;> rfl
theorem Hop.at {w : World} {o : Option Addr} {m cap : Nat} {l : List Hop} (h : RdS Hop.rep w (.slice o m cap) l) (k : Nat) (hk : k < l.length) :
    ∃ b off, o = some ⟨b, off, none⟩ ∧ w.cell? ⟨b, off + k * 5, none⟩ = some (.int .i64 l[k].asn) ∧ w.cell? ⟨b, off + k * 5 + 1, none⟩ = some (.int .i64 l[k].ing) ∧ w.cell? ⟨b, off + k * 5 + 2, none⟩ = some (.int .i64 l[k].eg) ∧ w.cell? ⟨b, off + k * 5 + 3, none⟩ = some (.int .i64 l[k].exp) ∧ w.cell? ⟨b, off + k * 5 + 4, none⟩ = some (.int .i64 l[k].mac) := by
  obtain ⟨b, off, ho, hc⟩ := RdS.at_flat h k hk
  exact ⟨b, off, ho, by simpa using hc 0 _ rfl, by simpa using hc 1 _ rfl, by simpa using hc 2 _ rfl, by simpa using hc 3 _ rfl, by simpa using hc 4 _ rfl⟩
theorem Hop.at_ext {w w' : World} {b off k : Nat} {l : List Hop} {hk : k < l.length} (x : Ext w w') (h : w.cell? ⟨b, off + k * 5, none⟩ = some (.int .i64 l[k].asn) ∧ w.cell? ⟨b, off + k * 5 + 1, none⟩ = some (.int .i64 l[k].ing) ∧ w.cell? ⟨b, off + k * 5 + 2, none⟩ = some (.int .i64 l[k].eg) ∧ w.cell? ⟨b, off + k * 5 + 3, none⟩ = some (.int .i64 l[k].exp) ∧ w.cell? ⟨b, off + k * 5 + 4, none⟩ = some (.int .i64 l[k].mac)) :
    w'.cell? ⟨b, off + k * 5, none⟩ = some (.int .i64 l[k].asn) ∧ w'.cell? ⟨b, off + k * 5 + 1, none⟩ = some (.int .i64 l[k].ing) ∧ w'.cell? ⟨b, off + k * 5 + 2, none⟩ = some (.int .i64 l[k].eg) ∧ w'.cell? ⟨b, off + k * 5 + 3, none⟩ = some (.int .i64 l[k].exp) ∧ w'.cell? ⟨b, off + k * 5 + 4, none⟩ = some (.int .i64 l[k].mac) := by
  obtain ⟨h0, h1, h2, h3, h4⟩ := h
  exact ⟨x.cell h0, x.cell h1, x.cell h2, x.cell h3, x.cell h4⟩
theorem Hop.own_at {base : Nat} {e : TypeId} {w : World} {g m cap : Nat} {l : List Hop} (h : OwnF Hop.f 5 base e w (.slice (some ⟨g, 0, none⟩) m cap) l) (k : Nat) (hk : k < l.length) :
    w.cell? ⟨g, k * 5, none⟩ = some (.int .i64 l[k].asn) ∧ w.cell? ⟨g, k * 5 + 1, none⟩ = some (.int .i64 l[k].ing) ∧ w.cell? ⟨g, k * 5 + 2, none⟩ = some (.int .i64 l[k].eg) ∧ w.cell? ⟨g, k * 5 + 3, none⟩ = some (.int .i64 l[k].exp) ∧ w.cell? ⟨g, k * 5 + 4, none⟩ = some (.int .i64 l[k].mac) := by
  have hc := OwnF.cells_flat Hop.flen h k hk
  exact ⟨by simpa using hc 0 _ rfl, by simpa using hc 1 _ rfl, by simpa using hc 2 _ rfl, by simpa using hc 3 _ rfl, by simpa using hc 4 _ rfl⟩
theorem Tryz.infoHop : (Tryz.prog.info? 44).map (fun i => (i.zero, i.size, i.bytes)) = some (some (.agg #[.int .i64 0, .int .i64 0, .int .i64 0, .int .i64 0, .int .i64 0]), 5, 40) := by kernel_rfl
theorem Hop.sets {l : List Hop} {k : Nat} (hk : k < l.length) (x : Hop) : ((((((l.flatMap Hop.f).set (k * 5) (.int .i64 x.asn)).set (k * 5 + 1) (.int .i64 x.ing)).set (k * 5 + 2) (.int .i64 x.eg)).set (k * 5 + 3) (.int .i64 x.exp)).set (k * 5 + 4) (.int .i64 x.mac)) = (l.set k x).flatMap Hop.f := by
  induction l generalizing k with
  | nil => simp at hk
  | cons a l ih =>
    cases k with
    | zero => rfl
    | succ k =>
      have := ih (k := k) (by simpa using hk)
      simp only [List.flatMap_cons, List.set_cons_succ, ← this, Hop.f]
      rw [show (k + 1) * 5 = k * 5 + 1 + 1 + 1 + 1 + 1 from by omega]
      rfl
theorem Hop.own_set {base : Nat} {e : TypeId} {w : World} {g m cap : Nat} {l : List Hop} (h : OwnF Hop.f 5 base e w (.slice (some ⟨g, 0, none⟩) m cap) l) (k : Nat) (hk : k < l.length) (x : Hop) :
    OwnF Hop.f 5 base e (((((w.setCell ⟨g, k * 5, none⟩ (.int .i64 x.asn)).setCell ⟨g, k * 5 + 1, none⟩ (.int .i64 x.ing)).setCell ⟨g, k * 5 + 2, none⟩ (.int .i64 x.eg)).setCell ⟨g, k * 5 + 3, none⟩ (.int .i64 x.exp)).setCell ⟨g, k * 5 + 4, none⟩ (.int .i64 x.mac)) (.slice (some ⟨g, 0, none⟩) m cap) (l.set k x) ∧
      w.grownBy (((((w.setCell ⟨g, k * 5, none⟩ (.int .i64 x.asn)).setCell ⟨g, k * 5 + 1, none⟩ (.int .i64 x.ing)).setCell ⟨g, k * 5 + 2, none⟩ (.int .i64 x.eg)).setCell ⟨g, k * 5 + 3, none⟩ (.int .i64 x.exp)).setCell ⟨g, k * 5 + 4, none⟩ (.int .i64 x.mac)) (some g) := by
  obtain rfl := h.len
  obtain ⟨h0, g0⟩ := World.ownsRow.stored h (k * 5) (.int .i64 x.asn)
  obtain ⟨h1, g1⟩ := World.ownsRow.stored h0 (k * 5 + 1) (.int .i64 x.ing)
  obtain ⟨h2, g2⟩ := World.ownsRow.stored h1 (k * 5 + 2) (.int .i64 x.eg)
  obtain ⟨h3, g3⟩ := World.ownsRow.stored h2 (k * 5 + 3) (.int .i64 x.exp)
  obtain ⟨h4, g4⟩ := World.ownsRow.stored h3 (k * 5 + 4) (.int .i64 x.mac)
  rw [Hop.sets hk] at h4
  refine ⟨?_, ((((g0.trans g1).trans g2).trans g3).trans g4)⟩
  unfold OwnF
  rw [List.length_set]
  exact h4


theorem Hop.ext' {x y : Hop} (h0 : x.asn = y.asn) (h1 : x.ing = y.ing) (h2 : x.eg = y.eg) (h3 : x.exp = y.exp) (h4 : x.mac = y.mac) : x = y := by
  cases x; cases y; simp_all
theorem Hop.eq_iff (x y : Hop) : (decide (x = y) : Bool) = (!(x.asn != y.asn) && !(x.ing != y.ing) && !(x.eg != y.eg) && !(x.exp != y.exp) && !(x.mac != y.mac)) := by
  cases x; cases y; simp only [nbne, Hop.mk.injEq, Bool.decide_and, Bool.and_assoc]

def Hop.mk' (k : Int) : Hop := ⟨k, k + 1, k + 1 + 1, k + 1 + 1 + 1, k + 1 + 1 + 1 + 1⟩

def Hop.ok (x : Hop) : Prop := I64 x.asn ∧ I64 x.ing ∧ I64 x.eg ∧ I64 x.exp ∧ I64 x.mac

end
section
open Go.ChangeShapes Go.WideShapes Go.ChangeAt Go.RowKit Go.Deep

theorem szL_add' {left : Int} {n m : Nat} (_ : ¬ left - n < 0) : szL (left - n) m = szL left (n + m) := by
  unfold szL
  by_cases h2 : left - n - m < 0
  · rw [if_pos h2, if_pos (by omega)]
  · rw [if_neg h2, if_neg (by omega)]; omega
structure Part where
  kind : Int
  ts : Int
  beta : Int
  hops : List Hop
  deriving DecidableEq
def Part.c (x : Part) (v : Value) : List Value := [.int .i64 x.kind, .int .i64 x.ts, .int .i64 x.beta, v]
theorem Part.clen (x : Part) (v : Value) : (x.c v).length = 4 := rfl
def Part.rep : Rep Part where
  cells := 4
  rd w cs x := ∃ v, cs = x.c v ∧ RdS Hop.rep w v x.hops
  len := by rintro w cs a ⟨v, rfl, _⟩; rfl
  ext := by rintro w w' cs a e ⟨v, rfl, h⟩; exact ⟨v, rfl, h.ext e⟩
def Part.ok (x : Part) : Prop := I64 x.kind ∧ I64 x.ts ∧ I64 x.beta ∧ ∀ y ∈ x.hops, Hop.ok y
def Part.size (x : Part) : Nat := x.hops.length
theorem Part.at {w : World} {o : Option Addr} {m cap : Nat} {l : List Part} (h : RdS Part.rep w (.slice o m cap) l) (k : Nat) (hk : k < l.length) :
    ∃ b off oh ch, o = some ⟨b, off, none⟩ ∧ (w.cell? ⟨b, off + k * 4, none⟩ = some (.int .i64 l[k].kind) ∧ w.cell? ⟨b, off + k * 4 + 1, none⟩ = some (.int .i64 l[k].ts) ∧ w.cell? ⟨b, off + k * 4 + 2, none⟩ = some (.int .i64 l[k].beta) ∧
      w.cell? ⟨b, off + k * 4 + 3, none⟩ = some (.slice oh l[k].hops.length ch)) ∧ RdS Hop.rep w (.slice oh l[k].hops.length ch) l[k].hops := by
  obtain ⟨o', cap', hv, h1, h2, hn, h3⟩ := h
  obtain ⟨b, off, cs, ho, hc, v, rfl, hr⟩ := h3 k hk
  cases hv
  obtain ⟨oh, ch, rfl, _⟩ := hr.shape
  exact ⟨b, off, oh, ch, ho, ⟨hc 0 _ rfl, hc 1 _ rfl, hc 2 _ rfl, hc 3 _ rfl⟩, hr⟩
theorem Part.at_ext {w w' : World} {b off k : Nat} {v0 v1 v2 v3 : Value} (x : Ext w w') (h : w.cell? ⟨b, off + k * 4, none⟩ = some v0 ∧ w.cell? ⟨b, off + k * 4 + 1, none⟩ = some v1 ∧ w.cell? ⟨b, off + k * 4 + 2, none⟩ = some v2 ∧ w.cell? ⟨b, off + k * 4 + 3, none⟩ = some v3) :
    w'.cell? ⟨b, off + k * 4, none⟩ = some v0 ∧ w'.cell? ⟨b, off + k * 4 + 1, none⟩ = some v1 ∧ w'.cell? ⟨b, off + k * 4 + 2, none⟩ = some v2 ∧ w'.cell? ⟨b, off + k * 4 + 3, none⟩ = some v3 :=
  ⟨x.cell h.1, x.cell h.2.1, x.cell h.2.2.1, x.cell h.2.2.2⟩
structure Pth where
  parts : List Part
  deriving DecidableEq
def Pth.c (_ : Pth) (v : Value) : List Value := [v]
def Pth.rep : Rep Pth where
  cells := 1
  rd w cs x := ∃ v, cs = x.c v ∧ RdS Part.rep w v x.parts
  len := by rintro w cs a ⟨v, rfl, _⟩; rfl
  ext := by rintro w w' cs a e ⟨v, rfl, h⟩; exact ⟨v, rfl, h.ext e⟩
def Pth.ok (x : Pth) : Prop := ∀ y ∈ x.parts, Part.ok y
/-- The hops of the parts, counted. -/
def hopsN (l : List Part) : Nat := (l.map Part.size).sum
theorem hopsN_snoc {l : List Part} {k : Nat} (hk : k < l.length) : hopsN (l.take (k + 1)) = hopsN (l.take k) + l[k].hops.length := by
  unfold hopsN
  rw [List.take_succ_eq_append_getElem hk, List.map_append, List.sum_append]
  simp only [List.map_cons, List.map_nil, List.sum_cons, List.sum_nil, Part.size]; omega
theorem hopsN_take_le (l : List Part) (k : Nat) : hopsN (l.take k) ≤ hopsN l := by
  unfold hopsN
  have h := List.take_append_drop k l
  have h2 : (l.map Part.size).sum = ((l.take k ++ l.drop k).map Part.size).sum := by rw [h]
  rw [List.map_append, List.sum_append] at h2
  omega
theorem hopsN_le {l : List Part} {k : Nat} (hk : k < l.length) : l[k].hops.length ≤ hopsN l := by
  have h1 := hopsN_snoc hk
  have h2 := hopsN_take_le l (k + 1)
  omega
def Pth.size (x : Pth) : Nat := x.parts.length + hopsN x.parts
def Part.own : Own Part := Own.nest 4 Part.c Part.clen (·.hops) 47 (Own.flat Hop.f 5 Hop.flen 44)
theorem Part.ord {S : Nat → Prop} {w : World} {v : Value} {l : List Part} (h : Part.own.own S w v l) : RdS Part.rep w v l := Part.own.rd h
theorem Tryz.infoPart : (Tryz.prog.info? 47).map (fun i => (i.zero, i.size, i.bytes)) = some (some (.agg #[.int .i64 0, .int .i64 0, .int .i64 0, .slice none 0 0]), 4, 48) := by kernel_rfl
theorem Part.row_set {w : World} {g m cap : Nat} {qs : List (Cap Part)} (h : OwnF (capF Part.c) 4 0 47 w (.slice (some ⟨g, 0, none⟩) m cap) qs) (k : Nat) (hk : k < qs.length) (q : Cap Part) :
    OwnF (capF Part.c) 4 0 47 ((((w.setCell ⟨g, k * 4, none⟩ (.int .i64 q.dat.kind)).setCell ⟨g, k * 4 + 1, none⟩ (.int .i64 q.dat.ts)).setCell ⟨g, k * 4 + 2, none⟩ (.int .i64 q.dat.beta)).setCell ⟨g, k * 4 + 3, none⟩ q.val) (.slice (some ⟨g, 0, none⟩) m cap) (qs.set k q) ∧
      w.grownBy ((((w.setCell ⟨g, k * 4, none⟩ (.int .i64 q.dat.kind)).setCell ⟨g, k * 4 + 1, none⟩ (.int .i64 q.dat.ts)).setCell ⟨g, k * 4 + 2, none⟩ (.int .i64 q.dat.beta)).setCell ⟨g, k * 4 + 3, none⟩ q.val) (some g) := by
  have hf : ∀ q : Cap Part, (capF Part.c q).length = 4 := fun _ => rfl
  obtain ⟨h0, g0⟩ := OwnF.put1 hf h k hk 0 (by decide) (.int .i64 q.dat.kind) ⟨{ qs[k].dat with kind := q.dat.kind }, qs[k].val, qs[k].set⟩ rfl
  have e0 : k < (qs.set k ⟨{ qs[k].dat with kind := q.dat.kind }, qs[k].val, qs[k].set⟩).length := by simpa using hk
  obtain ⟨h1, g1⟩ := OwnF.put1 hf h0 k e0 1 (by decide) (.int .i64 q.dat.ts) ⟨{ qs[k].dat with kind := q.dat.kind, ts := q.dat.ts }, qs[k].val, qs[k].set⟩ (by simp [capF, Part.c])
  rw [List.set_set] at h1
  have e1 : k < (qs.set k ⟨{ qs[k].dat with kind := q.dat.kind, ts := q.dat.ts }, qs[k].val, qs[k].set⟩).length := by simpa using hk
  obtain ⟨h2, g2⟩ := OwnF.put1 hf h1 k e1 2 (by decide) (.int .i64 q.dat.beta) ⟨{ qs[k].dat with kind := q.dat.kind, ts := q.dat.ts, beta := q.dat.beta }, qs[k].val, qs[k].set⟩ (by simp [capF, Part.c])
  rw [List.set_set] at h2
  have e2 : k < (qs.set k ⟨{ qs[k].dat with kind := q.dat.kind, ts := q.dat.ts, beta := q.dat.beta }, qs[k].val, qs[k].set⟩).length := by simpa using hk
  obtain ⟨h3, g3⟩ := OwnF.put1 hf h2 k e2 3 (by decide) q.val q (by simp [capF, Part.c])
  rw [List.set_set] at h3
  exact ⟨h3, ((g0.trans g1).trans g2).trans g3⟩
end
section
open Go.ChangeShapes Go.WideShapes Go.ChangeAt Go.RowKit Go.Deep

structure Step where
  asn : Int
  ing : Int
  eg : Int
  deriving DecidableEq
def Step.f (x : Step) : List Value := [.int .i64 x.asn, .int .i64 x.ing, .int .i64 x.eg]
theorem Step.flen (x : Step) : x.f.length = 3 := rfl
def Step.rep : Rep Step := Rep.flat 3 Step.f Step.flen
theorem Step.one (x : Step) : ∀ u ∈ x.f, u.oneCell' = true := by
  intro u hu
  simp only [Step.f, List.mem_cons, List.not_mem_nil, or_false] at hu
  rcases hu with rfl | rfl | rfl <;> rfl
theorem Step.at {w : World} {o : Option Addr} {m cap : Nat} {l : List Step} (h : RdS Step.rep w (.slice o m cap) l) (k : Nat) (hk : k < l.length) :
    ∃ b off, o = some ⟨b, off, none⟩ ∧ w.cell? ⟨b, off + k * 3, none⟩ = some (.int .i64 l[k].asn) ∧ w.cell? ⟨b, off + k * 3 + 1, none⟩ = some (.int .i64 l[k].ing) ∧ w.cell? ⟨b, off + k * 3 + 2, none⟩ = some (.int .i64 l[k].eg) := by
  obtain ⟨b, off, ho, hc⟩ := RdS.at_flat h k hk
  exact ⟨b, off, ho, by simpa using hc 0 _ rfl, by simpa using hc 1 _ rfl, by simpa using hc 2 _ rfl⟩
theorem Step.at_ext {w w' : World} {b off k : Nat} {l : List Step} {hk : k < l.length} (x : Ext w w') (h : w.cell? ⟨b, off + k * 3, none⟩ = some (.int .i64 l[k].asn) ∧ w.cell? ⟨b, off + k * 3 + 1, none⟩ = some (.int .i64 l[k].ing) ∧ w.cell? ⟨b, off + k * 3 + 2, none⟩ = some (.int .i64 l[k].eg)) :
    w'.cell? ⟨b, off + k * 3, none⟩ = some (.int .i64 l[k].asn) ∧ w'.cell? ⟨b, off + k * 3 + 1, none⟩ = some (.int .i64 l[k].ing) ∧ w'.cell? ⟨b, off + k * 3 + 2, none⟩ = some (.int .i64 l[k].eg) := by
  obtain ⟨h0, h1, h2⟩ := h
  exact ⟨x.cell h0, x.cell h1, x.cell h2⟩
theorem Step.own_at {base : Nat} {e : TypeId} {w : World} {g m cap : Nat} {l : List Step} (h : OwnF Step.f 3 base e w (.slice (some ⟨g, 0, none⟩) m cap) l) (k : Nat) (hk : k < l.length) :
    w.cell? ⟨g, k * 3, none⟩ = some (.int .i64 l[k].asn) ∧ w.cell? ⟨g, k * 3 + 1, none⟩ = some (.int .i64 l[k].ing) ∧ w.cell? ⟨g, k * 3 + 2, none⟩ = some (.int .i64 l[k].eg) := by
  have hc := OwnF.cells_flat Step.flen h k hk
  exact ⟨by simpa using hc 0 _ rfl, by simpa using hc 1 _ rfl, by simpa using hc 2 _ rfl⟩
theorem Tryz.infoStep : (Tryz.prog.info? 59).map (fun i => (i.zero, i.size, i.bytes)) = some (some (.agg #[.int .i64 0, .int .i64 0, .int .i64 0]), 3, 24) := by kernel_rfl
theorem Step.sets {l : List Step} {k : Nat} (hk : k < l.length) (x : Step) : ((((l.flatMap Step.f).set (k * 3) (.int .i64 x.asn)).set (k * 3 + 1) (.int .i64 x.ing)).set (k * 3 + 2) (.int .i64 x.eg)) = (l.set k x).flatMap Step.f := by
  induction l generalizing k with
  | nil => simp at hk
  | cons a l ih =>
    cases k with
    | zero => rfl
    | succ k =>
      have := ih (k := k) (by simpa using hk)
      simp only [List.flatMap_cons, List.set_cons_succ, ← this, Step.f]
      rw [show (k + 1) * 3 = k * 3 + 1 + 1 + 1 from by omega]
      rfl
theorem Step.own_set {base : Nat} {e : TypeId} {w : World} {g m cap : Nat} {l : List Step} (h : OwnF Step.f 3 base e w (.slice (some ⟨g, 0, none⟩) m cap) l) (k : Nat) (hk : k < l.length) (x : Step) :
    OwnF Step.f 3 base e (((w.setCell ⟨g, k * 3, none⟩ (.int .i64 x.asn)).setCell ⟨g, k * 3 + 1, none⟩ (.int .i64 x.ing)).setCell ⟨g, k * 3 + 2, none⟩ (.int .i64 x.eg)) (.slice (some ⟨g, 0, none⟩) m cap) (l.set k x) ∧
      w.grownBy (((w.setCell ⟨g, k * 3, none⟩ (.int .i64 x.asn)).setCell ⟨g, k * 3 + 1, none⟩ (.int .i64 x.ing)).setCell ⟨g, k * 3 + 2, none⟩ (.int .i64 x.eg)) (some g) := by
  obtain rfl := h.len
  obtain ⟨h0, g0⟩ := World.ownsRow.stored h (k * 3) (.int .i64 x.asn)
  obtain ⟨h1, g1⟩ := World.ownsRow.stored h0 (k * 3 + 1) (.int .i64 x.ing)
  obtain ⟨h2, g2⟩ := World.ownsRow.stored h1 (k * 3 + 2) (.int .i64 x.eg)
  rw [Step.sets hk] at h2
  refine ⟨?_, ((g0.trans g1).trans g2)⟩
  unfold OwnF
  rw [List.length_set]
  exact h2


theorem Step.ext' {x y : Step} (h0 : x.asn = y.asn) (h1 : x.ing = y.ing) (h2 : x.eg = y.eg) : x = y := by
  cases x; cases y; simp_all
theorem Step.eq_iff (x y : Step) : (decide (x = y) : Bool) = (!(x.asn != y.asn) && !(x.ing != y.ing) && !(x.eg != y.eg)) := by
  cases x; cases y; simp only [nbne, Step.mk.injEq, Bool.decide_and, Bool.and_assoc]

def Step.mk' (k : Int) : Step := ⟨k, k + 1, k + 1 + 1⟩

def Step.ok (x : Step) : Prop := I64 x.asn ∧ I64 x.ing ∧ I64 x.eg

end
section
open Go.RowKit

def isRev (k : Int) : Bool := k == 1 || k == 3
def hopIn (k : Int) (h : Hop) : Int := if isRev k then h.eg else h.ing
def hopEg (k : Int) (h : Hop) : Int := if isRev k then h.ing else h.eg
def partIn (p : Part) (i : Int) : Int := if 0 ≤ i ∧ i ≤ p.hops.length - 1 then (match p.hops[i.toNat]? with | some h => hopIn p.kind h | none => 0) else 0
def partEg (p : Part) (i : Int) : Int := if 0 ≤ i ∧ i ≤ p.hops.length - 1 then (match p.hops[i.toNat]? with | some h => hopEg p.kind h | none => 0) else 0
theorem partIn_at {p : Part} {i : Nat} (h : i < p.hops.length) : partIn p i = hopIn p.kind p.hops[i] := by
  unfold partIn; rw [if_pos (by omega)]; simp [h]
theorem partEg_at {p : Part} {i : Nat} (h : i < p.hops.length) : partEg p i = hopEg p.kind p.hops[i] := by
  unfold partEg; rw [if_pos (by omega)]; simp [h]
/-- The hop joins the last step of the part before. -/
def mergeB (m : Bool) (out : List Step) (h : Hop) : Bool := m && (match out.getLast? with | some s => s.asn == h.asn | none => false)
def stepOf (k : Int) (h : Hop) : Step := ⟨h.asn, hopIn k h, hopEg k h⟩
def stepOne (m : Bool) (k : Int) (out : List Step) (h : Hop) : List Step :=
  if mergeB m out h then (match out.getLast? with | some s => out.set (out.length - 1) ⟨s.asn, s.ing, hopEg k h⟩ | none => out) else out ++ [stepOf k h]
def hopsTo (m : Bool) (k : Int) (out : List Step) (hs : List Hop) : Nat → List Step
  | 0 => out
  | i + 1 => match hs[i]? with
    | some h => stepOne (m && i == 0) k (hopsTo m k out hs i) h
    | none => hopsTo m k out hs i
def partsTo (ps : List Part) : Nat → List Step
  | 0 => []
  | k + 1 => match ps[k]? with
    | some p => hopsTo (decide (0 < k)) p.kind (partsTo ps k) p.hops p.hops.length
    | none => partsTo ps k
def endsIn (l : List Step) : List Step := if h : 0 < l.length then l.set 0 ⟨l[0].asn, 0, l[0].eg⟩ else l
def endsEg (l : List Step) : List Step := if h : 0 < l.length then l.set (l.length - 1) ⟨l[l.length - 1].asn, l[l.length - 1].ing, 0⟩ else l
def pathSteps (ps : List Part) : List Step := endsEg (endsIn (partsTo ps ps.length))
theorem hopsTo_succ {m : Bool} {k : Int} {out : List Step} {hs : List Hop} {i : Nat} (h : i < hs.length) : hopsTo m k out hs (i + 1) = stepOne (m && i == 0) k (hopsTo m k out hs i) hs[i] := by
  simp [hopsTo, h]
theorem partsTo_succ {ps : List Part} {k : Nat} (h : k < ps.length) : partsTo ps (k + 1) = hopsTo (decide (0 < k)) ps[k].kind (partsTo ps k) ps[k].hops ps[k].hops.length := by
  simp [partsTo, h]
theorem stepOne_no {m : Bool} {k : Int} {out : List Step} {h : Hop} (hm : mergeB m out h = false) : stepOne m k out h = out ++ [stepOf k h] := by simp [stepOne, hm]
theorem mergeB_len {m : Bool} {out : List Step} {h : Hop} (hm : mergeB m out h = true) : 0 < out.length := by
  cases out with
  | nil => simp [mergeB] at hm
  | cons a l => simp
theorem getLast_at {α : Type} {out : List α} (h : 0 < out.length) : out.getLast? = some out[out.length - 1] := by
  rw [List.getLast?_eq_getElem?, List.getElem?_eq_getElem (by omega)]
theorem mergeB_at {m : Bool} {out : List Step} {h : Hop} (hl : 0 < out.length) : mergeB m out h = (m && (out[out.length - 1].asn == h.asn)) := by
  unfold mergeB; rw [getLast_at hl]
theorem mergeB_nil {m : Bool} {h : Hop} : mergeB m [] h = false := by simp [mergeB]
theorem stepOne_yes {m : Bool} {k : Int} {out : List Step} {h : Hop} (hm : mergeB m out h = true) (hn : 0 < out.length) : stepOne m k out h = out.set (out.length - 1) ⟨(out[out.length - 1]'(by omega)).asn, (out[out.length - 1]'(by omega)).ing, hopEg k h⟩ := by
  simp only [stepOne, hm, if_true]
  rw [getLast_at hn]
theorem stepOne_yes2 {m : Bool} {k : Int} {out : List Step} {h : Hop} (hm : mergeB m out h = true) (hn : 0 < out.length) : stepOne m k out h = out.take (out.length - 1) ++ [⟨h.asn, (out[out.length - 1]'(by omega)).ing, hopEg k h⟩] := by
  rw [stepOne_yes hm hn]
  have h1 : out[out.length - 1].asn = h.asn := by
    rw [mergeB_at hn] at hm
    simp only [Bool.and_eq_true, beq_iff_eq] at hm
    exact hm.2
  rw [h1]
  apply List.ext_getElem
  · simp; omega
  · intro i h1 h2
    simp only [List.length_set] at h1
    rw [List.getElem_set]
    by_cases hi : out.length - 1 = i
    · subst hi
      rw [if_pos rfl, List.getElem_append_right (by simp)]
      simp
    · rw [if_neg hi, List.getElem_append_left (by simp; omega)]
      simp
theorem stepOne_len (m : Bool) (k : Int) (out : List Step) (h : Hop) : (stepOne m k out h).length ≤ out.length + 1 := by
  cases hm : mergeB m out h
  · rw [stepOne_no hm]; simp
  · rw [stepOne_yes hm (mergeB_len hm)]; simp
theorem hopsTo_len (m : Bool) (k : Int) (out : List Step) (hs : List Hop) : ∀ i, (hopsTo m k out hs i).length ≤ out.length + i
  | 0 => Nat.le_refl _
  | i + 1 => by
    have ih := hopsTo_len m k out hs i
    unfold hopsTo
    split
    · have := stepOne_len (m && i == 0) k (hopsTo m k out hs i) (by assumption); omega
    · omega
theorem partsTo_len (ps : List Part) : ∀ k, k ≤ ps.length → (partsTo ps k).length ≤ hopsN (ps.take k)
  | 0, _ => by simp [partsTo]
  | k + 1, hk => by
    have ih := partsTo_len ps k (by omega)
    rw [partsTo_succ (by omega), hopsN_snoc (by omega)]
    have := hopsTo_len (decide (0 < k)) ps[k].kind (partsTo ps k) ps[k].hops ps[k].hops.length
    omega
theorem endsIn_len (l : List Step) : (endsIn l).length = l.length := by unfold endsIn; split <;> simp
theorem endsEg_len (l : List Step) : (endsEg l).length = l.length := by unfold endsEg; split <;> simp
theorem pathSteps_len (ps : List Part) : (pathSteps ps).length ≤ hopsN ps := by
  unfold pathSteps
  rw [endsEg_len, endsIn_len]
  have := partsTo_len ps ps.length (Nat.le_refl _)
  rwa [List.take_length] at this
def endsOf (l : List Step) : Int × Int := match l with
  | [] => (-1, -1)
  | a :: l => (a.asn, ((a :: l).getLast (by simp)).asn)
theorem endsOf_nil {l : List Step} (h : l.length = 0) : endsOf l = (-1, -1) := by
  unfold endsOf; rw [List.eq_nil_of_length_eq_zero h]
theorem endsOf_at {l : List Step} (h : 0 < l.length) : endsOf l = (l[0].asn, l[l.length - 1].asn) := by
  cases l with
  | nil => simp at h
  | cons a l => simp [endsOf, List.getLast_eq_getElem]
def ends (ps : List Part) : Int × Int := endsOf (pathSteps ps)
end
section
open Go.ChangeShapes Go.WideShapes Go.ChangeAt Go.RowKit Go.Deep

def inR (n a b : Int) : Bool := decide (a ≤ n) && decide (n ≤ b)
theorem inR_true {n a b : Int} : inR n a b = true ↔ a ≤ n ∧ n ≤ b := by simp [inR]
theorem inR_false {n a b : Int} : inR n a b = false ↔ ¬ (a ≤ n ∧ n ≤ b) := by rw [← inR_true]; simp

set_option maxHeartbeats 400000 in
theorem i_InRange (n a b : Int) (w : World) :
    Calls Tryz.prog 170 #[.int .i64 n, .int .i64 a, .int .i64 b] w fun e w' => e = .returned (.bool (inR n a b)) ∧ w = w' := by
  go_enter Tryz.func170, Tryz.ntmps170
  go_wp2
  all_goals
    go_ret
    refine ⟨ret_bool ?_, rfl⟩
    simp [inR, *]
    try omega

set_option maxHeartbeats 400000 in
theorem s_l1In (n a b : Int) (w : World) :
    Calls Tryz.prog 196 #[.int .i64 n, .int .i64 a, .int .i64 b] w fun e w' => e = .returned (.bool (inR n a b)) ∧ w = w' := by
  go_enter Tryz.func196, Tryz.ntmps196
  go_wp2
  all_goals
    go_ret
    refine ⟨ret_bool ?_, rfl⟩
    simp [inR, *]
    try omega


end
section
open Go.ChangeShapes Go.WideShapes Go.ChangeAt Go.RowKit Go.Deep

theorem elemStp : Nonempty (Elem Tryz.prog 54 59 3 24) := Elem.mk' Tryz.underlying54 Tryz.infoStep rfl (by decide)
set_option maxHeartbeats 400000 in
theorem i_IsReversed (k : Int) (w : World) :
    Calls Tryz.prog 24 #[.int .i64 k] w fun e w' => e = .returned (.bool (isRev k)) ∧ w = w' := by
  go_enter Tryz.func24, Tryz.ntmps24
  go_wp2
  all_goals
    go_ret
    refine ⟨ret_bool ?_, rfl⟩
    simp [isRev, *]
set_option maxHeartbeats 400000 in
theorem s_IsReversed (k : Int) (w : World) :
    Calls Tryz.prog 133 #[.int .i64 k] w fun e w' => e = .returned (.bool (isRev k)) ∧ w = w' := by
  go_enter Tryz.func133, Tryz.ntmps133
  go_wp2
  all_goals
    go_ret
    refine ⟨ret_bool ?_, rfl⟩
    simp [isRev, *]
set_option maxHeartbeats 1000000 in
theorem i_PartIngress (x : Part) (v : Value) (i : Int) (w : World) (r : RdS Hop.rep w v x.hops) :
    Calls Tryz.prog 174 #[.agg #[.int .i64 x.kind, .int .i64 x.ts, .int .i64 x.beta, v], .int .i64 i] w fun e w' => e = .returned (.int .i64 (partIn x i)) ∧ Ext w w' := by
  obtain ⟨o, cap, rfl, hsm⟩ := r.shape
  have hx0 : Ext w (w.alloc (.cells #[.int .i64 x.kind, .int .i64 x.ts, .int .i64 x.beta, .slice o x.hops.length cap] 47)) := (Ext.refl _).alloc _
  go_enter Tryz.func174, Tryz.ntmps174
  go_wp2_with fail
  refine (i_InRange _ _ _ _).mono ?_
  rintro e w1 ⟨rfl, rfl⟩
  cases hin : inR i 0 (x.hops.length - 1)
  · have he : partIn x i = 0 := by unfold partIn; rw [if_neg (inR_false.1 hin)]
    have HE := Lib.hid he; clear he
    go_wp2_with fail
    go_ret
    exact ⟨ret_int HE.out.symm, hx0⟩
  · obtain ⟨h1, h2⟩ := inR_true.1 hin
    obtain ⟨k, rfl⟩ := Int.eq_ofNat_of_zero_le h1
    have hk : k < x.hops.length := by omega
    have he := partIn_at hk
    have HE := Lib.hid he; clear he
    obtain ⟨b, off, rfl, hc⟩ := Hop.at (r.ext hx0) k hk
    go_wp2_with fail
    refine (i_IsReversed _ _).mono ?_
    rintro e w1 ⟨rfl, rfl⟩
    cases hrv : isRev x.kind
    · have hh : hopIn x.kind x.hops[k] = x.hops[k].ing := by simp [hopIn, hrv]
      have HH := Lib.hid (HE.out.trans hh); clear hh
      go_wp2_with fail
      go_ret
      exact ⟨ret_int HH.out.symm, hx0⟩
    · have hh : hopIn x.kind x.hops[k] = x.hops[k].eg := by simp [hopIn, hrv]
      have HH := Lib.hid (HE.out.trans hh); clear hh
      go_wp2_with fail
      go_ret
      exact ⟨ret_int HH.out.symm, hx0⟩
set_option maxHeartbeats 1000000 in
theorem i_PartEgress (x : Part) (v : Value) (i : Int) (w : World) (r : RdS Hop.rep w v x.hops) :
    Calls Tryz.prog 173 #[.agg #[.int .i64 x.kind, .int .i64 x.ts, .int .i64 x.beta, v], .int .i64 i] w fun e w' => e = .returned (.int .i64 (partEg x i)) ∧ Ext w w' := by
  obtain ⟨o, cap, rfl, hsm⟩ := r.shape
  have hx0 : Ext w (w.alloc (.cells #[.int .i64 x.kind, .int .i64 x.ts, .int .i64 x.beta, .slice o x.hops.length cap] 47)) := (Ext.refl _).alloc _
  go_enter Tryz.func173, Tryz.ntmps173
  go_wp2_with fail
  refine (i_InRange _ _ _ _).mono ?_
  rintro e w1 ⟨rfl, rfl⟩
  cases hin : inR i 0 (x.hops.length - 1)
  · have he : partEg x i = 0 := by unfold partEg; rw [if_neg (inR_false.1 hin)]
    have HE := Lib.hid he; clear he
    go_wp2_with fail
    go_ret
    exact ⟨ret_int HE.out.symm, hx0⟩
  · obtain ⟨h1, h2⟩ := inR_true.1 hin
    obtain ⟨k, rfl⟩ := Int.eq_ofNat_of_zero_le h1
    have hk : k < x.hops.length := by omega
    have he := partEg_at hk
    have HE := Lib.hid he; clear he
    obtain ⟨b, off, rfl, hc⟩ := Hop.at (r.ext hx0) k hk
    go_wp2_with fail
    refine (i_IsReversed _ _).mono ?_
    rintro e w1 ⟨rfl, rfl⟩
    cases hrv : isRev x.kind
    · have hh : hopEg x.kind x.hops[k] = x.hops[k].eg := by simp [hopEg, hrv]
      have HH := Lib.hid (HE.out.trans hh); clear hh
      go_wp2_with fail
      go_ret
      exact ⟨ret_int HH.out.symm, hx0⟩
    · have hh : hopEg x.kind x.hops[k] = x.hops[k].ing := by simp [hopEg, hrv]
      have HH := Lib.hid (HE.out.trans hh); clear hh
      go_wp2_with fail
      go_ret
      exact ⟨ret_int HH.out.symm, hx0⟩
set_option maxHeartbeats 1000000 in
theorem s_PartIngress (x : Part) (v : Value) (i : Int) (w : World) (r : RdS Hop.rep w v x.hops) :
    Calls Tryz.prog 200 #[.agg #[.int .i64 x.kind, .int .i64 x.ts, .int .i64 x.beta, v], .int .i64 i] w fun e w' => e = .returned (.int .i64 (partIn x i)) ∧ Ext w w' := by
  obtain ⟨o, cap, rfl, hsm⟩ := r.shape
  have hx0 : Ext w (w.alloc (.cells #[.int .i64 x.kind, .int .i64 x.ts, .int .i64 x.beta, .slice o x.hops.length cap] 47)) := (Ext.refl _).alloc _
  go_enter Tryz.func200, Tryz.ntmps200
  go_wp2_with fail
  refine (s_l1In _ _ _ _).mono ?_
  rintro e w1 ⟨rfl, rfl⟩
  cases hin : inR i 0 (x.hops.length - 1)
  · have he : partIn x i = 0 := by unfold partIn; rw [if_neg (inR_false.1 hin)]
    have HE := Lib.hid he; clear he
    go_wp2_with fail
    go_ret
    exact ⟨ret_int HE.out.symm, hx0⟩
  · obtain ⟨h1, h2⟩ := inR_true.1 hin
    obtain ⟨k, rfl⟩ := Int.eq_ofNat_of_zero_le h1
    have hk : k < x.hops.length := by omega
    have he := partIn_at hk
    have HE := Lib.hid he; clear he
    obtain ⟨b, off, rfl, hc⟩ := Hop.at (r.ext hx0) k hk
    go_wp2_with fail
    refine (s_IsReversed _ _).mono ?_
    rintro e w1 ⟨rfl, rfl⟩
    cases hrv : isRev x.kind
    · have hh : hopIn x.kind x.hops[k] = x.hops[k].ing := by simp [hopIn, hrv]
      have HH := Lib.hid (HE.out.trans hh); clear hh
      go_wp2_with fail
      go_ret
      exact ⟨ret_int HH.out.symm, hx0⟩
    · have hh : hopIn x.kind x.hops[k] = x.hops[k].eg := by simp [hopIn, hrv]
      have HH := Lib.hid (HE.out.trans hh); clear hh
      go_wp2_with fail
      go_ret
      exact ⟨ret_int HH.out.symm, hx0⟩
set_option maxHeartbeats 1000000 in
theorem s_PartEgress (x : Part) (v : Value) (i : Int) (w : World) (r : RdS Hop.rep w v x.hops) :
    Calls Tryz.prog 202 #[.agg #[.int .i64 x.kind, .int .i64 x.ts, .int .i64 x.beta, v], .int .i64 i] w fun e w' => e = .returned (.int .i64 (partEg x i)) ∧ Ext w w' := by
  obtain ⟨o, cap, rfl, hsm⟩ := r.shape
  have hx0 : Ext w (w.alloc (.cells #[.int .i64 x.kind, .int .i64 x.ts, .int .i64 x.beta, .slice o x.hops.length cap] 47)) := (Ext.refl _).alloc _
  go_enter Tryz.func202, Tryz.ntmps202
  go_wp2_with fail
  refine (s_l1In _ _ _ _).mono ?_
  rintro e w1 ⟨rfl, rfl⟩
  cases hin : inR i 0 (x.hops.length - 1)
  · have he : partEg x i = 0 := by unfold partEg; rw [if_neg (inR_false.1 hin)]
    have HE := Lib.hid he; clear he
    go_wp2_with fail
    go_ret
    exact ⟨ret_int HE.out.symm, hx0⟩
  · obtain ⟨h1, h2⟩ := inR_true.1 hin
    obtain ⟨k, rfl⟩ := Int.eq_ofNat_of_zero_le h1
    have hk : k < x.hops.length := by omega
    have he := partEg_at hk
    have HE := Lib.hid he; clear he
    obtain ⟨b, off, rfl, hc⟩ := Hop.at (r.ext hx0) k hk
    go_wp2_with fail
    refine (s_IsReversed _ _).mono ?_
    rintro e w1 ⟨rfl, rfl⟩
    cases hrv : isRev x.kind
    · have hh : hopEg x.kind x.hops[k] = x.hops[k].eg := by simp [hopEg, hrv]
      have HH := Lib.hid (HE.out.trans hh); clear hh
      go_wp2_with fail
      go_ret
      exact ⟨ret_int HH.out.symm, hx0⟩
    · have hh : hopEg x.kind x.hops[k] = x.hops[k].ing := by simp [hopEg, hrv]
      have HH := Lib.hid (HE.out.trans hh); clear hh
      go_wp2_with fail
      go_ret
      exact ⟨ret_int HH.out.symm, hx0⟩
end
end Go.Proofs.YtjmlicmloacmaaaGreat
