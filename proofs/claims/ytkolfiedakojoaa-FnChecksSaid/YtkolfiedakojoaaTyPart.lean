/- The data of path parts and paths, how they read, and the contracts of the laws' helper functions over them. No condition but the bounds that each theorem names. -/
import Derived.Test.YtkolfiedakojoaaOwn
import Derived.Test.YtkolfiedakojoaaSeq
import Derived.Test.YtkolfiedakojoaaTyHop
namespace Go.Proofs.Ytkolfiedakojoaa
open Go.ChangeShapes Go.WideShapes Go.ChangeAt Go.RowKit Go.Deep

theorem szL_add' {left : Int} {n m : Nat} (_ : ¬ left - n < 0) : szL (left - n) m = szL left (n + m) := by
  unfold szL
  by_cases h2 : left - n - m < 0
  · rw [if_pos h2, if_pos (by omega)]
  · rw [if_neg h2, if_neg (by omega)]; omega
structure Part where
  kind : Int
  ts : Int
  beta : Int
  hops : List Hop
  deriving DecidableEq
def Part.c (x : Part) (v : Value) : List Value := [.int .i64 x.kind, .int .i64 x.ts, .int .i64 x.beta, v]
theorem Part.clen (x : Part) (v : Value) : (x.c v).length = 4 := rfl
def Part.rep : Rep Part where
  cells := 4
  rd w cs x := ∃ v, cs = x.c v ∧ RdS Hop.rep w v x.hops
  len := by rintro w cs a ⟨v, rfl, _⟩; rfl
  ext := by rintro w w' cs a e ⟨v, rfl, h⟩; exact ⟨v, rfl, h.ext e⟩
def Part.ok (x : Part) : Prop := I64 x.kind ∧ I64 x.ts ∧ I64 x.beta ∧ ∀ y ∈ x.hops, Hop.ok y
def Part.size (x : Part) : Nat := x.hops.length
theorem Part.at {w : World} {o : Option Addr} {m cap : Nat} {l : List Part} (h : RdS Part.rep w (.slice o m cap) l) (k : Nat) (hk : k < l.length) :
    ∃ b off oh ch, o = some ⟨b, off, none⟩ ∧ (w.cell? ⟨b, off + k * 4, none⟩ = some (.int .i64 l[k].kind) ∧ w.cell? ⟨b, off + k * 4 + 1, none⟩ = some (.int .i64 l[k].ts) ∧ w.cell? ⟨b, off + k * 4 + 2, none⟩ = some (.int .i64 l[k].beta) ∧
      w.cell? ⟨b, off + k * 4 + 3, none⟩ = some (.slice oh l[k].hops.length ch)) ∧ RdS Hop.rep w (.slice oh l[k].hops.length ch) l[k].hops := by
  obtain ⟨o', cap', hv, h1, h2, hn, h3⟩ := h
  obtain ⟨b, off, cs, ho, hc, v, rfl, hr⟩ := h3 k hk
  cases hv
  obtain ⟨oh, ch, rfl, _⟩ := hr.shape
  exact ⟨b, off, oh, ch, ho, ⟨hc 0 _ rfl, hc 1 _ rfl, hc 2 _ rfl, hc 3 _ rfl⟩, hr⟩
theorem Part.at_ext {w w' : World} {b off k : Nat} {v0 v1 v2 v3 : Value} (x : Ext w w') (h : w.cell? ⟨b, off + k * 4, none⟩ = some v0 ∧ w.cell? ⟨b, off + k * 4 + 1, none⟩ = some v1 ∧ w.cell? ⟨b, off + k * 4 + 2, none⟩ = some v2 ∧ w.cell? ⟨b, off + k * 4 + 3, none⟩ = some v3) :
    w'.cell? ⟨b, off + k * 4, none⟩ = some v0 ∧ w'.cell? ⟨b, off + k * 4 + 1, none⟩ = some v1 ∧ w'.cell? ⟨b, off + k * 4 + 2, none⟩ = some v2 ∧ w'.cell? ⟨b, off + k * 4 + 3, none⟩ = some v3 :=
  ⟨x.cell h.1, x.cell h.2.1, x.cell h.2.2.1, x.cell h.2.2.2⟩
structure Pth where
  parts : List Part
  deriving DecidableEq
def Pth.c (_ : Pth) (v : Value) : List Value := [v]
def Pth.rep : Rep Pth where
  cells := 1
  rd w cs x := ∃ v, cs = x.c v ∧ RdS Part.rep w v x.parts
  len := by rintro w cs a ⟨v, rfl, _⟩; rfl
  ext := by rintro w w' cs a e ⟨v, rfl, h⟩; exact ⟨v, rfl, h.ext e⟩
def Pth.ok (x : Pth) : Prop := ∀ y ∈ x.parts, Part.ok y
/-- The hops of the parts, counted. -/
def hopsN (l : List Part) : Nat := (l.map Part.size).sum
theorem hopsN_snoc {l : List Part} {k : Nat} (hk : k < l.length) : hopsN (l.take (k + 1)) = hopsN (l.take k) + l[k].hops.length := by
  unfold hopsN
  rw [List.take_succ_eq_append_getElem hk, List.map_append, List.sum_append]
  simp only [List.map_cons, List.map_nil, List.sum_cons, List.sum_nil, Part.size]; omega
theorem hopsN_take_le (l : List Part) (k : Nat) : hopsN (l.take k) ≤ hopsN l := by
  unfold hopsN
  have h := List.take_append_drop k l
  have h2 : (l.map Part.size).sum = ((l.take k ++ l.drop k).map Part.size).sum := by rw [h]
  rw [List.map_append, List.sum_append] at h2
  omega
theorem hopsN_le {l : List Part} {k : Nat} (hk : k < l.length) : l[k].hops.length ≤ hopsN l := by
  have h1 := hopsN_snoc hk
  have h2 := hopsN_take_le l (k + 1)
  omega
def Pth.size (x : Pth) : Nat := x.parts.length + hopsN x.parts
def Part.own : Own Part := Own.nest 4 Part.c Part.clen (·.hops) 95 (Own.flat Hop.f 5 Hop.flen 73)
theorem Part.ord {S : Nat → Prop} {w : World} {v : Value} {l : List Part} (h : Part.own.own S w v l) : RdS Part.rep w v l := Part.own.rd h
theorem Try.infoPart : (Try.prog.info? 95).map (fun i => (i.zero, i.size, i.bytes)) = some (some (.agg #[.int .i64 0, .int .i64 0, .int .i64 0, .slice none 0 0]), 4, 48) := by kernel_rfl
theorem Part.row_set {w : World} {g m cap : Nat} {qs : List (Cap Part)} (h : OwnF (capF Part.c) 4 0 95 w (.slice (some ⟨g, 0, none⟩) m cap) qs) (k : Nat) (hk : k < qs.length) (q : Cap Part) :
    OwnF (capF Part.c) 4 0 95 ((((w.setCell ⟨g, k * 4, none⟩ (.int .i64 q.dat.kind)).setCell ⟨g, k * 4 + 1, none⟩ (.int .i64 q.dat.ts)).setCell ⟨g, k * 4 + 2, none⟩ (.int .i64 q.dat.beta)).setCell ⟨g, k * 4 + 3, none⟩ q.val) (.slice (some ⟨g, 0, none⟩) m cap) (qs.set k q) ∧
      w.grownBy ((((w.setCell ⟨g, k * 4, none⟩ (.int .i64 q.dat.kind)).setCell ⟨g, k * 4 + 1, none⟩ (.int .i64 q.dat.ts)).setCell ⟨g, k * 4 + 2, none⟩ (.int .i64 q.dat.beta)).setCell ⟨g, k * 4 + 3, none⟩ q.val) (some g) := by
  have hf : ∀ q : Cap Part, (capF Part.c q).length = 4 := fun _ => rfl
  obtain ⟨h0, g0⟩ := OwnF.put1 hf h k hk 0 (by decide) (.int .i64 q.dat.kind) ⟨{ qs[k].dat with kind := q.dat.kind }, qs[k].val, qs[k].set⟩ rfl
  have e0 : k < (qs.set k ⟨{ qs[k].dat with kind := q.dat.kind }, qs[k].val, qs[k].set⟩).length := by simpa using hk
  obtain ⟨h1, g1⟩ := OwnF.put1 hf h0 k e0 1 (by decide) (.int .i64 q.dat.ts) ⟨{ qs[k].dat with kind := q.dat.kind, ts := q.dat.ts }, qs[k].val, qs[k].set⟩ (by simp [capF, Part.c])
  rw [List.set_set] at h1
  have e1 : k < (qs.set k ⟨{ qs[k].dat with kind := q.dat.kind, ts := q.dat.ts }, qs[k].val, qs[k].set⟩).length := by simpa using hk
  obtain ⟨h2, g2⟩ := OwnF.put1 hf h1 k e1 2 (by decide) (.int .i64 q.dat.beta) ⟨{ qs[k].dat with kind := q.dat.kind, ts := q.dat.ts, beta := q.dat.beta }, qs[k].val, qs[k].set⟩ (by simp [capF, Part.c])
  rw [List.set_set] at h2
  have e2 : k < (qs.set k ⟨{ qs[k].dat with kind := q.dat.kind, ts := q.dat.ts, beta := q.dat.beta }, qs[k].val, qs[k].set⟩).length := by simpa using hk
  obtain ⟨h3, g3⟩ := OwnF.put1 hf h2 k e2 3 (by decide) q.val q (by simp [capF, Part.c])
  rw [List.set_set] at h3
  exact ⟨h3, ((g0.trans g1).trans g2).trans g3⟩
end Go.Proofs.Ytkolfiedakojoaa
