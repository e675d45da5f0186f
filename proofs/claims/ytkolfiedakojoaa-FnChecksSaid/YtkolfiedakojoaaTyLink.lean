/- The data of the struct Link (Lnk), how a slice of it reads, and the contracts of the laws' helper functions over it. No condition but the bounds that each theorem names. -/
import Derived.Test.YtkolfiedakojoaaOpen
namespace Go.Proofs.Ytkolfiedakojoaa
open Go.ChangeShapes Go.WideShapes Go.ChangeAt Go.RowKit Go.Deep

structure Lnk where
  a : Int
  ai : Int
  b : Int
  bi : Int
  kind : Int
  deriving DecidableEq
def Lnk.f (x : Lnk) : List Value := [.int .i64 x.a, .int .i64 x.ai, .int .i64 x.b, .int .i64 x.bi, .int .i64 x.kind]
theorem Lnk.flen (x : Lnk) : x.f.length = 5 := rfl
def Lnk.rep : Rep Lnk := Rep.flat 5 Lnk.f Lnk.flen
theorem Lnk.one (x : Lnk) : ∀ u ∈ x.f, u.oneCell' = true := by
  intro u hu
  simp only [Lnk.f, List.mem_cons, List.not_mem_nil, or_false] at hu
  rcases hu with rfl | rfl | rfl | rfl | rfl <;> rfl
theorem Lnk.at {w : World} {o : Option Addr} {m cap : Nat} {l : List Lnk} (h : RdS Lnk.rep w (.slice o m cap) l) (k : Nat) (hk : k < l.length) :
    ∃ b off, o = some ⟨b, off, none⟩ ∧ w.cell? ⟨b, off + k * 5, none⟩ = some (.int .i64 l[k].a) ∧ w.cell? ⟨b, off + k * 5 + 1, none⟩ = some (.int .i64 l[k].ai) ∧ w.cell? ⟨b, off + k * 5 + 2, none⟩ = some (.int .i64 l[k].b) ∧ w.cell? ⟨b, off + k * 5 + 3, none⟩ = some (.int .i64 l[k].bi) ∧ w.cell? ⟨b, off + k * 5 + 4, none⟩ = some (.int .i64 l[k].kind) := by
  obtain ⟨b, off, ho, hc⟩ := RdS.at_flat h k hk
  exact ⟨b, off, ho, by simpa using hc 0 _ rfl, by simpa using hc 1 _ rfl, by simpa using hc 2 _ rfl, by simpa using hc 3 _ rfl, by simpa using hc 4 _ rfl⟩
theorem Lnk.at_ext {w w' : World} {b off k : Nat} {l : List Lnk} {hk : k < l.length} (x : Ext w w') (h : w.cell? ⟨b, off + k * 5, none⟩ = some (.int .i64 l[k].a) ∧ w.cell? ⟨b, off + k * 5 + 1, none⟩ = some (.int .i64 l[k].ai) ∧ w.cell? ⟨b, off + k * 5 + 2, none⟩ = some (.int .i64 l[k].b) ∧ w.cell? ⟨b, off + k * 5 + 3, none⟩ = some (.int .i64 l[k].bi) ∧ w.cell? ⟨b, off + k * 5 + 4, none⟩ = some (.int .i64 l[k].kind)) :
    w'.cell? ⟨b, off + k * 5, none⟩ = some (.int .i64 l[k].a) ∧ w'.cell? ⟨b, off + k * 5 + 1, none⟩ = some (.int .i64 l[k].ai) ∧ w'.cell? ⟨b, off + k * 5 + 2, none⟩ = some (.int .i64 l[k].b) ∧ w'.cell? ⟨b, off + k * 5 + 3, none⟩ = some (.int .i64 l[k].bi) ∧ w'.cell? ⟨b, off + k * 5 + 4, none⟩ = some (.int .i64 l[k].kind) := by
  obtain ⟨h0, h1, h2, h3, h4⟩ := h
  exact ⟨x.cell h0, x.cell h1, x.cell h2, x.cell h3, x.cell h4⟩
theorem Lnk.own_at {base : Nat} {e : TypeId} {w : World} {g m cap : Nat} {l : List Lnk} (h : OwnF Lnk.f 5 base e w (.slice (some ⟨g, 0, none⟩) m cap) l) (k : Nat) (hk : k < l.length) :
    w.cell? ⟨g, k * 5, none⟩ = some (.int .i64 l[k].a) ∧ w.cell? ⟨g, k * 5 + 1, none⟩ = some (.int .i64 l[k].ai) ∧ w.cell? ⟨g, k * 5 + 2, none⟩ = some (.int .i64 l[k].b) ∧ w.cell? ⟨g, k * 5 + 3, none⟩ = some (.int .i64 l[k].bi) ∧ w.cell? ⟨g, k * 5 + 4, none⟩ = some (.int .i64 l[k].kind) := by
  have hc := OwnF.cells_flat Lnk.flen h k hk
  exact ⟨by simpa using hc 0 _ rfl, by simpa using hc 1 _ rfl, by simpa using hc 2 _ rfl, by simpa using hc 3 _ rfl, by simpa using hc 4 _ rfl⟩
theorem Try.infoLnk : (Try.prog.info? 174).map (fun i => (i.zero, i.size, i.bytes)) = some (some (.agg #[.int .i64 0, .int .i64 0, .int .i64 0, .int .i64 0, .int .i64 0]), 5, 40) := by kernel_rfl
theorem Lnk.sets {l : List Lnk} {k : Nat} (hk : k < l.length) (x : Lnk) : ((((((l.flatMap Lnk.f).set (k * 5) (.int .i64 x.a)).set (k * 5 + 1) (.int .i64 x.ai)).set (k * 5 + 2) (.int .i64 x.b)).set (k * 5 + 3) (.int .i64 x.bi)).set (k * 5 + 4) (.int .i64 x.kind)) = (l.set k x).flatMap Lnk.f := by
  induction l generalizing k with
  | nil => simp at hk
  | cons a l ih =>
    cases k with
    | zero => rfl
    | succ k =>
      have := ih (k := k) (by simpa using hk)
      simp only [List.flatMap_cons, List.set_cons_succ, ← this, Lnk.f]
      rw [show (k + 1) * 5 = k * 5 + 1 + 1 + 1 + 1 + 1 from by omega]
      rfl
theorem Lnk.own_set {base : Nat} {e : TypeId} {w : World} {g m cap : Nat} {l : List Lnk} (h : OwnF Lnk.f 5 base e w (.slice (some ⟨g, 0, none⟩) m cap) l) (k : Nat) (hk : k < l.length) (x : Lnk) :
    OwnF Lnk.f 5 base e (((((w.setCell ⟨g, k * 5, none⟩ (.int .i64 x.a)).setCell ⟨g, k * 5 + 1, none⟩ (.int .i64 x.ai)).setCell ⟨g, k * 5 + 2, none⟩ (.int .i64 x.b)).setCell ⟨g, k * 5 + 3, none⟩ (.int .i64 x.bi)).setCell ⟨g, k * 5 + 4, none⟩ (.int .i64 x.kind)) (.slice (some ⟨g, 0, none⟩) m cap) (l.set k x) ∧
      w.grownBy (((((w.setCell ⟨g, k * 5, none⟩ (.int .i64 x.a)).setCell ⟨g, k * 5 + 1, none⟩ (.int .i64 x.ai)).setCell ⟨g, k * 5 + 2, none⟩ (.int .i64 x.b)).setCell ⟨g, k * 5 + 3, none⟩ (.int .i64 x.bi)).setCell ⟨g, k * 5 + 4, none⟩ (.int .i64 x.kind)) (some g) := by
  obtain rfl := h.len
  obtain ⟨h0, g0⟩ := World.ownsRow.stored h (k * 5) (.int .i64 x.a)
  obtain ⟨h1, g1⟩ := World.ownsRow.stored h0 (k * 5 + 1) (.int .i64 x.ai)
  obtain ⟨h2, g2⟩ := World.ownsRow.stored h1 (k * 5 + 2) (.int .i64 x.b)
  obtain ⟨h3, g3⟩ := World.ownsRow.stored h2 (k * 5 + 3) (.int .i64 x.bi)
  obtain ⟨h4, g4⟩ := World.ownsRow.stored h3 (k * 5 + 4) (.int .i64 x.kind)
  rw [Lnk.sets hk] at h4
  refine ⟨?_, ((((g0.trans g1).trans g2).trans g3).trans g4)⟩
  unfold OwnF
  rw [List.length_set]
  exact h4


theorem Lnk.ext' {x y : Lnk} (h0 : x.a = y.a) (h1 : x.ai = y.ai) (h2 : x.b = y.b) (h3 : x.bi = y.bi) (h4 : x.kind = y.kind) : x = y := by
  cases x; cases y; simp_all
theorem Lnk.eq_iff (x y : Lnk) : (decide (x = y) : Bool) = (!(x.a != y.a) && !(x.ai != y.ai) && !(x.b != y.b) && !(x.bi != y.bi) && !(x.kind != y.kind)) := by
  cases x; cases y; simp only [nbne, Lnk.mk.injEq, Bool.decide_and, Bool.and_assoc]

def Lnk.mk' (k : Int) : Lnk := ⟨k, k + 1, k + 1 + 1, k + 1 + 1 + 1, k + 1 + 1 + 1 + 1⟩

def Lnk.ok (x : Lnk) : Prop := I64 x.a ∧ I64 x.ai ∧ I64 x.b ∧ I64 x.bi ∧ I64 x.kind

end Go.Proofs.Ytkolfiedakojoaa
