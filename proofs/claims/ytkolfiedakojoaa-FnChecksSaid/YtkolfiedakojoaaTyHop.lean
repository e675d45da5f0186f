/- The data of the struct Hop (Hop), how a slice of it reads, and the contracts of the laws' helper functions over it. No condition but the bounds that each theorem names. -/
import Derived.Test.YtkolfiedakojoaaOpen
namespace Go.Proofs.Ytkolfiedakojoaa
open Go.ChangeShapes Go.WideShapes Go.ChangeAt Go.RowKit Go.Deep

structure Hop where
  asn : Int
  ing : Int
  eg : Int
  exp : Int
  mac : Int
  deriving DecidableEq
def Hop.f (x : Hop) : List Value := [.int .i64 x.asn, .int .i64 x.ing, .int .i64 x.eg, .int .i64 x.exp, .int .i64 x.mac]
theorem Hop.flen (x : Hop) : x.f.length = 5 := rfl
def Hop.rep : Rep Hop := Rep.flat 5 Hop.f Hop.flen
theorem Hop.one (x : Hop) : ∀ u ∈ x.f, u.oneCell' = true := by
  intro u hu
  simp only [Hop.f, List.mem_cons, List.not_mem_nil, or_false] at hu
  rcases hu with rfl | rfl | rfl | rfl | rfl <;> rfl
theorem Hop.at {w : World} {o : Option Addr} {m cap : Nat} {l : List Hop} (h : RdS Hop.rep w (.slice o m cap) l) (k : Nat) (hk : k < l.length) :
    ∃ b off, o = some ⟨b, off, none⟩ ∧ w.cell? ⟨b, off + k * 5, none⟩ = some (.int .i64 l[k].asn) ∧ w.cell? ⟨b, off + k * 5 + 1, none⟩ = some (.int .i64 l[k].ing) ∧ w.cell? ⟨b, off + k * 5 + 2, none⟩ = some (.int .i64 l[k].eg) ∧ w.cell? ⟨b, off + k * 5 + 3, none⟩ = some (.int .i64 l[k].exp) ∧ w.cell? ⟨b, off + k * 5 + 4, none⟩ = some (.int .i64 l[k].mac) := by
  obtain ⟨b, off, ho, hc⟩ := RdS.at_flat h k hk
  exact ⟨b, off, ho, by simpa using hc 0 _ rfl, by simpa using hc 1 _ rfl, by simpa using hc 2 _ rfl, by simpa using hc 3 _ rfl, by simpa using hc 4 _ rfl⟩
theorem Hop.at_ext {w w' : World} {b off k : Nat} {l : List Hop} {hk : k < l.length} (x : Ext w w') (h : w.cell? ⟨b, off + k * 5, none⟩ = some (.int .i64 l[k].asn) ∧ w.cell? ⟨b, off + k * 5 + 1, none⟩ = some (.int .i64 l[k].ing) ∧ w.cell? ⟨b, off + k * 5 + 2, none⟩ = some (.int .i64 l[k].eg) ∧ w.cell? ⟨b, off + k * 5 + 3, none⟩ = some (.int .i64 l[k].exp) ∧ w.cell? ⟨b, off + k * 5 + 4, none⟩ = some (.int .i64 l[k].mac)) :
    w'.cell? ⟨b, off + k * 5, none⟩ = some (.int .i64 l[k].asn) ∧ w'.cell? ⟨b, off + k * 5 + 1, none⟩ = some (.int .i64 l[k].ing) ∧ w'.cell? ⟨b, off + k * 5 + 2, none⟩ = some (.int .i64 l[k].eg) ∧ w'.cell? ⟨b, off + k * 5 + 3, none⟩ = some (.int .i64 l[k].exp) ∧ w'.cell? ⟨b, off + k * 5 + 4, none⟩ = some (.int .i64 l[k].mac) := by
  obtain ⟨h0, h1, h2, h3, h4⟩ := h
  exact ⟨x.cell h0, x.cell h1, x.cell h2, x.cell h3, x.cell h4⟩
theorem Hop.own_at {base : Nat} {e : TypeId} {w : World} {g m cap : Nat} {l : List Hop} (h : OwnF Hop.f 5 base e w (.slice (some ⟨g, 0, none⟩) m cap) l) (k : Nat) (hk : k < l.length) :
    w.cell? ⟨g, k * 5, none⟩ = some (.int .i64 l[k].asn) ∧ w.cell? ⟨g, k * 5 + 1, none⟩ = some (.int .i64 l[k].ing) ∧ w.cell? ⟨g, k * 5 + 2, none⟩ = some (.int .i64 l[k].eg) ∧ w.cell? ⟨g, k * 5 + 3, none⟩ = some (.int .i64 l[k].exp) ∧ w.cell? ⟨g, k * 5 + 4, none⟩ = some (.int .i64 l[k].mac) := by
  have hc := OwnF.cells_flat Hop.flen h k hk
  exact ⟨by simpa using hc 0 _ rfl, by simpa using hc 1 _ rfl, by simpa using hc 2 _ rfl, by simpa using hc 3 _ rfl, by simpa using hc 4 _ rfl⟩
theorem Try.infoHop : (Try.prog.info? 73).map (fun i => (i.zero, i.size, i.bytes)) = some (some (.agg #[.int .i64 0, .int .i64 0, .int .i64 0, .int .i64 0, .int .i64 0]), 5, 40) := by kernel_rfl
theorem Hop.sets {l : List Hop} {k : Nat} (hk : k < l.length) (x : Hop) : ((((((l.flatMap Hop.f).set (k * 5) (.int .i64 x.asn)).set (k * 5 + 1) (.int .i64 x.ing)).set (k * 5 + 2) (.int .i64 x.eg)).set (k * 5 + 3) (.int .i64 x.exp)).set (k * 5 + 4) (.int .i64 x.mac)) = (l.set k x).flatMap Hop.f := by
  induction l generalizing k with
  | nil => simp at hk
  | cons a l ih =>
    cases k with
    | zero => rfl
    | succ k =>
      have := ih (k := k) (by simpa using hk)
      simp only [List.flatMap_cons, List.set_cons_succ, ← this, Hop.f]
      rw [show (k + 1) * 5 = k * 5 + 1 + 1 + 1 + 1 + 1 from by omega]
      rfl
theorem Hop.own_set {base : Nat} {e : TypeId} {w : World} {g m cap : Nat} {l : List Hop} (h : OwnF Hop.f 5 base e w (.slice (some ⟨g, 0, none⟩) m cap) l) (k : Nat) (hk : k < l.length) (x : Hop) :
    OwnF Hop.f 5 base e (((((w.setCell ⟨g, k * 5, none⟩ (.int .i64 x.asn)).setCell ⟨g, k * 5 + 1, none⟩ (.int .i64 x.ing)).setCell ⟨g, k * 5 + 2, none⟩ (.int .i64 x.eg)).setCell ⟨g, k * 5 + 3, none⟩ (.int .i64 x.exp)).setCell ⟨g, k * 5 + 4, none⟩ (.int .i64 x.mac)) (.slice (some ⟨g, 0, none⟩) m cap) (l.set k x) ∧
      w.grownBy (((((w.setCell ⟨g, k * 5, none⟩ (.int .i64 x.asn)).setCell ⟨g, k * 5 + 1, none⟩ (.int .i64 x.ing)).setCell ⟨g, k * 5 + 2, none⟩ (.int .i64 x.eg)).setCell ⟨g, k * 5 + 3, none⟩ (.int .i64 x.exp)).setCell ⟨g, k * 5 + 4, none⟩ (.int .i64 x.mac)) (some g) := by
  obtain rfl := h.len
  obtain ⟨h0, g0⟩ := World.ownsRow.stored h (k * 5) (.int .i64 x.asn)
  obtain ⟨h1, g1⟩ := World.ownsRow.stored h0 (k * 5 + 1) (.int .i64 x.ing)
  obtain ⟨h2, g2⟩ := World.ownsRow.stored h1 (k * 5 + 2) (.int .i64 x.eg)
  obtain ⟨h3, g3⟩ := World.ownsRow.stored h2 (k * 5 + 3) (.int .i64 x.exp)
  obtain ⟨h4, g4⟩ := World.ownsRow.stored h3 (k * 5 + 4) (.int .i64 x.mac)
  rw [Hop.sets hk] at h4
  refine ⟨?_, ((((g0.trans g1).trans g2).trans g3).trans g4)⟩
  unfold OwnF
  rw [List.length_set]
  exact h4


theorem Hop.ext' {x y : Hop} (h0 : x.asn = y.asn) (h1 : x.ing = y.ing) (h2 : x.eg = y.eg) (h3 : x.exp = y.exp) (h4 : x.mac = y.mac) : x = y := by
  cases x; cases y; simp_all
theorem Hop.eq_iff (x y : Hop) : (decide (x = y) : Bool) = (!(x.asn != y.asn) && !(x.ing != y.ing) && !(x.eg != y.eg) && !(x.exp != y.exp) && !(x.mac != y.mac)) := by
  cases x; cases y; simp only [nbne, Hop.mk.injEq, Bool.decide_and, Bool.and_assoc]

def Hop.mk' (k : Int) : Hop := ⟨k, k + 1, k + 1 + 1, k + 1 + 1 + 1, k + 1 + 1 + 1 + 1⟩

def Hop.ok (x : Hop) : Prop := I64 x.asn ∧ I64 x.ing ∧ I64 x.eg ∧ I64 x.exp ∧ I64 x.mac

end Go.Proofs.Ytkolfiedakojoaa
