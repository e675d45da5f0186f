/- The data of the struct AS (ASd), how a slice of it reads, and the contracts of the laws' helper functions over it. No condition but the bounds that each theorem names. -/
import Derived.Test.YtkolfiedakojoaaOpen
namespace Go.Proofs.Ytkolfiedakojoaa
open Go.ChangeShapes Go.WideShapes Go.ChangeAt Go.RowKit Go.Deep

structure ASd where
  isd : Int
  core : Bool
  key : Int
  deriving DecidableEq
def ASd.f (x : ASd) : List Value := [.int .i64 x.isd, .bool x.core, .int .i64 x.key]
theorem ASd.flen (x : ASd) : x.f.length = 3 := rfl
def ASd.rep : Rep ASd := Rep.flat 3 ASd.f ASd.flen
theorem ASd.one (x : ASd) : ∀ u ∈ x.f, u.oneCell' = true := by
  intro u hu
  simp only [ASd.f, List.mem_cons, List.not_mem_nil, or_false] at hu
  rcases hu with rfl | rfl | rfl <;> rfl
theorem ASd.at {w : World} {o : Option Addr} {m cap : Nat} {l : List ASd} (h : RdS ASd.rep w (.slice o m cap) l) (k : Nat) (hk : k < l.length) :
    ∃ b off, o = some ⟨b, off, none⟩ ∧ w.cell? ⟨b, off + k * 3, none⟩ = some (.int .i64 l[k].isd) ∧ w.cell? ⟨b, off + k * 3 + 1, none⟩ = some (.bool l[k].core) ∧ w.cell? ⟨b, off + k * 3 + 2, none⟩ = some (.int .i64 l[k].key) := by
  obtain ⟨b, off, ho, hc⟩ := RdS.at_flat h k hk
  exact ⟨b, off, ho, by simpa using hc 0 _ rfl, by simpa using hc 1 _ rfl, by simpa using hc 2 _ rfl⟩
theorem ASd.at_ext {w w' : World} {b off k : Nat} {l : List ASd} {hk : k < l.length} (x : Ext w w') (h : w.cell? ⟨b, off + k * 3, none⟩ = some (.int .i64 l[k].isd) ∧ w.cell? ⟨b, off + k * 3 + 1, none⟩ = some (.bool l[k].core) ∧ w.cell? ⟨b, off + k * 3 + 2, none⟩ = some (.int .i64 l[k].key)) :
    w'.cell? ⟨b, off + k * 3, none⟩ = some (.int .i64 l[k].isd) ∧ w'.cell? ⟨b, off + k * 3 + 1, none⟩ = some (.bool l[k].core) ∧ w'.cell? ⟨b, off + k * 3 + 2, none⟩ = some (.int .i64 l[k].key) := by
  obtain ⟨h0, h1, h2⟩ := h
  exact ⟨x.cell h0, x.cell h1, x.cell h2⟩
theorem ASd.own_at {base : Nat} {e : TypeId} {w : World} {g m cap : Nat} {l : List ASd} (h : OwnF ASd.f 3 base e w (.slice (some ⟨g, 0, none⟩) m cap) l) (k : Nat) (hk : k < l.length) :
    w.cell? ⟨g, k * 3, none⟩ = some (.int .i64 l[k].isd) ∧ w.cell? ⟨g, k * 3 + 1, none⟩ = some (.bool l[k].core) ∧ w.cell? ⟨g, k * 3 + 2, none⟩ = some (.int .i64 l[k].key) := by
  have hc := OwnF.cells_flat ASd.flen h k hk
  exact ⟨by simpa using hc 0 _ rfl, by simpa using hc 1 _ rfl, by simpa using hc 2 _ rfl⟩
theorem Try.infoASd : (Try.prog.info? 136).map (fun i => (i.zero, i.size, i.bytes)) = some (some (.agg #[.int .i64 0, .bool false, .int .i64 0]), 3, 24) := by kernel_rfl
theorem ASd.sets {l : List ASd} {k : Nat} (hk : k < l.length) (x : ASd) : ((((l.flatMap ASd.f).set (k * 3) (.int .i64 x.isd)).set (k * 3 + 1) (.bool x.core)).set (k * 3 + 2) (.int .i64 x.key)) = (l.set k x).flatMap ASd.f := by
  induction l generalizing k with
  | nil => simp at hk
  | cons a l ih =>
    cases k with
    | zero => rfl
    | succ k =>
      have := ih (k := k) (by simpa using hk)
      simp only [List.flatMap_cons, List.set_cons_succ, ← this, ASd.f]
      rw [show (k + 1) * 3 = k * 3 + 1 + 1 + 1 from by omega]
      rfl
theorem ASd.own_set {base : Nat} {e : TypeId} {w : World} {g m cap : Nat} {l : List ASd} (h : OwnF ASd.f 3 base e w (.slice (some ⟨g, 0, none⟩) m cap) l) (k : Nat) (hk : k < l.length) (x : ASd) :
    OwnF ASd.f 3 base e (((w.setCell ⟨g, k * 3, none⟩ (.int .i64 x.isd)).setCell ⟨g, k * 3 + 1, none⟩ (.bool x.core)).setCell ⟨g, k * 3 + 2, none⟩ (.int .i64 x.key)) (.slice (some ⟨g, 0, none⟩) m cap) (l.set k x) ∧
      w.grownBy (((w.setCell ⟨g, k * 3, none⟩ (.int .i64 x.isd)).setCell ⟨g, k * 3 + 1, none⟩ (.bool x.core)).setCell ⟨g, k * 3 + 2, none⟩ (.int .i64 x.key)) (some g) := by
  obtain rfl := h.len
  obtain ⟨h0, g0⟩ := World.ownsRow.stored h (k * 3) (.int .i64 x.isd)
  obtain ⟨h1, g1⟩ := World.ownsRow.stored h0 (k * 3 + 1) (.bool x.core)
  obtain ⟨h2, g2⟩ := World.ownsRow.stored h1 (k * 3 + 2) (.int .i64 x.key)
  rw [ASd.sets hk] at h2
  refine ⟨?_, ((g0.trans g1).trans g2)⟩
  unfold OwnF
  rw [List.length_set]
  exact h2


theorem ASd.ext' {x y : ASd} (h0 : x.isd = y.isd) (h1 : x.core = y.core) (h2 : x.key = y.key) : x = y := by
  cases x; cases y; simp_all
theorem ASd.eq_iff (x y : ASd) : (decide (x = y) : Bool) = (!(x.isd != y.isd) && !(x.core != y.core) && !(x.key != y.key)) := by
  cases x; cases y; simp only [nbne, ASd.mk.injEq, Bool.decide_and, Bool.and_assoc]

def ASd.ok (x : ASd) : Prop := I64 x.isd ∧ I64 x.key

end Go.Proofs.Ytkolfiedakojoaa
