/- The data of the struct Step (Step), how a slice of it reads, and the contracts of the laws' helper functions over it. No condition but the bounds that each theorem names. -/
import Derived.Test.YtkolfiedakojoaaOpen
namespace Go.Proofs.Ytkolfiedakojoaa
open Go.ChangeShapes Go.WideShapes Go.ChangeAt Go.RowKit Go.Deep

structure Step where
  asn : Int
  ing : Int
  eg : Int
  deriving DecidableEq
def Step.f (x : Step) : List Value := [.int .i64 x.asn, .int .i64 x.ing, .int .i64 x.eg]
theorem Step.flen (x : Step) : x.f.length = 3 := rfl
def Step.rep : Rep Step := Rep.flat 3 Step.f Step.flen
theorem Step.one (x : Step) : ∀ u ∈ x.f, u.oneCell' = true := by
  intro u hu
  simp only [Step.f, List.mem_cons, List.not_mem_nil, or_false] at hu
  rcases hu with rfl | rfl | rfl <;> rfl
theorem Step.at {w : World} {o : Option Addr} {m cap : Nat} {l : List Step} (h : RdS Step.rep w (.slice o m cap) l) (k : Nat) (hk : k < l.length) :
    ∃ b off, o = some ⟨b, off, none⟩ ∧ w.cell? ⟨b, off + k * 3, none⟩ = some (.int .i64 l[k].asn) ∧ w.cell? ⟨b, off + k * 3 + 1, none⟩ = some (.int .i64 l[k].ing) ∧ w.cell? ⟨b, off + k * 3 + 2, none⟩ = some (.int .i64 l[k].eg) := by
  obtain ⟨b, off, ho, hc⟩ := RdS.at_flat h k hk
  exact ⟨b, off, ho, by simpa using hc 0 _ rfl, by simpa using hc 1 _ rfl, by simpa using hc 2 _ rfl⟩
theorem Step.at_ext {w w' : World} {b off k : Nat} {l : List Step} {hk : k < l.length} (x : Ext w w') (h : w.cell? ⟨b, off + k * 3, none⟩ = some (.int .i64 l[k].asn) ∧ w.cell? ⟨b, off + k * 3 + 1, none⟩ = some (.int .i64 l[k].ing) ∧ w.cell? ⟨b, off + k * 3 + 2, none⟩ = some (.int .i64 l[k].eg)) :
    w'.cell? ⟨b, off + k * 3, none⟩ = some (.int .i64 l[k].asn) ∧ w'.cell? ⟨b, off + k * 3 + 1, none⟩ = some (.int .i64 l[k].ing) ∧ w'.cell? ⟨b, off + k * 3 + 2, none⟩ = some (.int .i64 l[k].eg) := by
  obtain ⟨h0, h1, h2⟩ := h
  exact ⟨x.cell h0, x.cell h1, x.cell h2⟩
theorem Step.own_at {base : Nat} {e : TypeId} {w : World} {g m cap : Nat} {l : List Step} (h : OwnF Step.f 3 base e w (.slice (some ⟨g, 0, none⟩) m cap) l) (k : Nat) (hk : k < l.length) :
    w.cell? ⟨g, k * 3, none⟩ = some (.int .i64 l[k].asn) ∧ w.cell? ⟨g, k * 3 + 1, none⟩ = some (.int .i64 l[k].ing) ∧ w.cell? ⟨g, k * 3 + 2, none⟩ = some (.int .i64 l[k].eg) := by
  have hc := OwnF.cells_flat Step.flen h k hk
  exact ⟨by simpa using hc 0 _ rfl, by simpa using hc 1 _ rfl, by simpa using hc 2 _ rfl⟩
theorem Try.infoStep : (Try.prog.info? 55).map (fun i => (i.zero, i.size, i.bytes)) = some (some (.agg #[.int .i64 0, .int .i64 0, .int .i64 0]), 3, 24) := by kernel_rfl
theorem Step.sets {l : List Step} {k : Nat} (hk : k < l.length) (x : Step) : ((((l.flatMap Step.f).set (k * 3) (.int .i64 x.asn)).set (k * 3 + 1) (.int .i64 x.ing)).set (k * 3 + 2) (.int .i64 x.eg)) = (l.set k x).flatMap Step.f := by
  induction l generalizing k with
  | nil => simp at hk
  | cons a l ih =>
    cases k with
    | zero => rfl
    | succ k =>
      have := ih (k := k) (by simpa using hk)
      simp only [List.flatMap_cons, List.set_cons_succ, ← this, Step.f]
      rw [show (k + 1) * 3 = k * 3 + 1 + 1 + 1 from by omega]
      rfl
theorem Step.own_set {base : Nat} {e : TypeId} {w : World} {g m cap : Nat} {l : List Step} (h : OwnF Step.f 3 base e w (.slice (some ⟨g, 0, none⟩) m cap) l) (k : Nat) (hk : k < l.length) (x : Step) :
    OwnF Step.f 3 base e (((w.setCell ⟨g, k * 3, none⟩ (.int .i64 x.asn)).setCell ⟨g, k * 3 + 1, none⟩ (.int .i64 x.ing)).setCell ⟨g, k * 3 + 2, none⟩ (.int .i64 x.eg)) (.slice (some ⟨g, 0, none⟩) m cap) (l.set k x) ∧
      w.grownBy (((w.setCell ⟨g, k * 3, none⟩ (.int .i64 x.asn)).setCell ⟨g, k * 3 + 1, none⟩ (.int .i64 x.ing)).setCell ⟨g, k * 3 + 2, none⟩ (.int .i64 x.eg)) (some g) := by
  obtain rfl := h.len
  obtain ⟨h0, g0⟩ := World.ownsRow.stored h (k * 3) (.int .i64 x.asn)
  obtain ⟨h1, g1⟩ := World.ownsRow.stored h0 (k * 3 + 1) (.int .i64 x.ing)
  obtain ⟨h2, g2⟩ := World.ownsRow.stored h1 (k * 3 + 2) (.int .i64 x.eg)
  rw [Step.sets hk] at h2
  refine ⟨?_, ((g0.trans g1).trans g2)⟩
  unfold OwnF
  rw [List.length_set]
  exact h2


theorem Step.ext' {x y : Step} (h0 : x.asn = y.asn) (h1 : x.ing = y.ing) (h2 : x.eg = y.eg) : x = y := by
  cases x; cases y; simp_all
theorem Step.eq_iff (x y : Step) : (decide (x = y) : Bool) = (!(x.asn != y.asn) && !(x.ing != y.ing) && !(x.eg != y.eg)) := by
  cases x; cases y; simp only [nbne, Step.mk.injEq, Bool.decide_and, Bool.and_assoc]

def Step.mk' (k : Int) : Step := ⟨k, k + 1, k + 1 + 1⟩

def Step.ok (x : Step) : Prop := I64 x.asn ∧ I64 x.ing ∧ I64 x.eg

end Go.Proofs.Ytkolfiedakojoaa
