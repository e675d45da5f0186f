/- The data of the struct Reservation (Resv), how a slice of it reads, and the contracts of the laws' helper functions over it. No condition but the bounds that each theorem names. -/
import Derived.Test.YtkolfiedakojoaaOpen
namespace Go.Proofs.Ytkolfiedakojoaa
open Go.ChangeShapes Go.WideShapes Go.ChangeAt Go.RowKit Go.Deep

structure Resv where
  id : Int
  asn : Int
  iface : Int
  rate : Int
  till : Int
  deriving DecidableEq
def Resv.f (x : Resv) : List Value := [.int .i64 x.id, .int .i64 x.asn, .int .i64 x.iface, .int .i64 x.rate, .int .i64 x.till]
theorem Resv.flen (x : Resv) : x.f.length = 5 := rfl
def Resv.rep : Rep Resv := Rep.flat 5 Resv.f Resv.flen
theorem Resv.one (x : Resv) : ∀ u ∈ x.f, u.oneCell' = true := by
  intro u hu
  simp only [Resv.f, List.mem_cons, List.not_mem_nil, or_false] at hu
  rcases hu with rfl | rfl | rfl | rfl | rfl <;> rfl
theorem Resv.at {w : World} {o : Option Addr} {m cap : Nat} {l : List Resv} (h : RdS Resv.rep w (.slice o m cap) l) (k : Nat) (hk : k < l.length) :
    ∃ b off, o = some ⟨b, off, none⟩ ∧ w.cell? ⟨b, off + k * 5, none⟩ = some (.int .i64 l[k].id) ∧ w.cell? ⟨b, off + k * 5 + 1, none⟩ = some (.int .i64 l[k].asn) ∧ w.cell? ⟨b, off + k * 5 + 2, none⟩ = some (.int .i64 l[k].iface) ∧ w.cell? ⟨b, off + k * 5 + 3, none⟩ = some (.int .i64 l[k].rate) ∧ w.cell? ⟨b, off + k * 5 + 4, none⟩ = some (.int .i64 l[k].till) := by
  obtain ⟨b, off, ho, hc⟩ := RdS.at_flat h k hk
  exact ⟨b, off, ho, by simpa using hc 0 _ rfl, by simpa using hc 1 _ rfl, by simpa using hc 2 _ rfl, by simpa using hc 3 _ rfl, by simpa using hc 4 _ rfl⟩
theorem Resv.at_ext {w w' : World} {b off k : Nat} {l : List Resv} {hk : k < l.length} (x : Ext w w') (h : w.cell? ⟨b, off + k * 5, none⟩ = some (.int .i64 l[k].id) ∧ w.cell? ⟨b, off + k * 5 + 1, none⟩ = some (.int .i64 l[k].asn) ∧ w.cell? ⟨b, off + k * 5 + 2, none⟩ = some (.int .i64 l[k].iface) ∧ w.cell? ⟨b, off + k * 5 + 3, none⟩ = some (.int .i64 l[k].rate) ∧ w.cell? ⟨b, off + k * 5 + 4, none⟩ = some (.int .i64 l[k].till)) :
    w'.cell? ⟨b, off + k * 5, none⟩ = some (.int .i64 l[k].id) ∧ w'.cell? ⟨b, off + k * 5 + 1, none⟩ = some (.int .i64 l[k].asn) ∧ w'.cell? ⟨b, off + k * 5 + 2, none⟩ = some (.int .i64 l[k].iface) ∧ w'.cell? ⟨b, off + k * 5 + 3, none⟩ = some (.int .i64 l[k].rate) ∧ w'.cell? ⟨b, off + k * 5 + 4, none⟩ = some (.int .i64 l[k].till) := by
  obtain ⟨h0, h1, h2, h3, h4⟩ := h
  exact ⟨x.cell h0, x.cell h1, x.cell h2, x.cell h3, x.cell h4⟩
theorem Resv.own_at {base : Nat} {e : TypeId} {w : World} {g m cap : Nat} {l : List Resv} (h : OwnF Resv.f 5 base e w (.slice (some ⟨g, 0, none⟩) m cap) l) (k : Nat) (hk : k < l.length) :
    w.cell? ⟨g, k * 5, none⟩ = some (.int .i64 l[k].id) ∧ w.cell? ⟨g, k * 5 + 1, none⟩ = some (.int .i64 l[k].asn) ∧ w.cell? ⟨g, k * 5 + 2, none⟩ = some (.int .i64 l[k].iface) ∧ w.cell? ⟨g, k * 5 + 3, none⟩ = some (.int .i64 l[k].rate) ∧ w.cell? ⟨g, k * 5 + 4, none⟩ = some (.int .i64 l[k].till) := by
  have hc := OwnF.cells_flat Resv.flen h k hk
  exact ⟨by simpa using hc 0 _ rfl, by simpa using hc 1 _ rfl, by simpa using hc 2 _ rfl, by simpa using hc 3 _ rfl, by simpa using hc 4 _ rfl⟩
theorem Try.infoResv : (Try.prog.info? 116).map (fun i => (i.zero, i.size, i.bytes)) = some (some (.agg #[.int .i64 0, .int .i64 0, .int .i64 0, .int .i64 0, .int .i64 0]), 5, 40) := by kernel_rfl
theorem Resv.sets {l : List Resv} {k : Nat} (hk : k < l.length) (x : Resv) : ((((((l.flatMap Resv.f).set (k * 5) (.int .i64 x.id)).set (k * 5 + 1) (.int .i64 x.asn)).set (k * 5 + 2) (.int .i64 x.iface)).set (k * 5 + 3) (.int .i64 x.rate)).set (k * 5 + 4) (.int .i64 x.till)) = (l.set k x).flatMap Resv.f := by
  induction l generalizing k with
  | nil => simp at hk
  | cons a l ih =>
    cases k with
    | zero => rfl
    | succ k =>
      have := ih (k := k) (by simpa using hk)
      simp only [List.flatMap_cons, List.set_cons_succ, ← this, Resv.f]
      rw [show (k + 1) * 5 = k * 5 + 1 + 1 + 1 + 1 + 1 from by omega]
      rfl
theorem Resv.own_set {base : Nat} {e : TypeId} {w : World} {g m cap : Nat} {l : List Resv} (h : OwnF Resv.f 5 base e w (.slice (some ⟨g, 0, none⟩) m cap) l) (k : Nat) (hk : k < l.length) (x : Resv) :
    OwnF Resv.f 5 base e (((((w.setCell ⟨g, k * 5, none⟩ (.int .i64 x.id)).setCell ⟨g, k * 5 + 1, none⟩ (.int .i64 x.asn)).setCell ⟨g, k * 5 + 2, none⟩ (.int .i64 x.iface)).setCell ⟨g, k * 5 + 3, none⟩ (.int .i64 x.rate)).setCell ⟨g, k * 5 + 4, none⟩ (.int .i64 x.till)) (.slice (some ⟨g, 0, none⟩) m cap) (l.set k x) ∧
      w.grownBy (((((w.setCell ⟨g, k * 5, none⟩ (.int .i64 x.id)).setCell ⟨g, k * 5 + 1, none⟩ (.int .i64 x.asn)).setCell ⟨g, k * 5 + 2, none⟩ (.int .i64 x.iface)).setCell ⟨g, k * 5 + 3, none⟩ (.int .i64 x.rate)).setCell ⟨g, k * 5 + 4, none⟩ (.int .i64 x.till)) (some g) := by
  obtain rfl := h.len
  obtain ⟨h0, g0⟩ := World.ownsRow.stored h (k * 5) (.int .i64 x.id)
  obtain ⟨h1, g1⟩ := World.ownsRow.stored h0 (k * 5 + 1) (.int .i64 x.asn)
  obtain ⟨h2, g2⟩ := World.ownsRow.stored h1 (k * 5 + 2) (.int .i64 x.iface)
  obtain ⟨h3, g3⟩ := World.ownsRow.stored h2 (k * 5 + 3) (.int .i64 x.rate)
  obtain ⟨h4, g4⟩ := World.ownsRow.stored h3 (k * 5 + 4) (.int .i64 x.till)
  rw [Resv.sets hk] at h4
  refine ⟨?_, ((((g0.trans g1).trans g2).trans g3).trans g4)⟩
  unfold OwnF
  rw [List.length_set]
  exact h4


theorem Resv.ext' {x y : Resv} (h0 : x.id = y.id) (h1 : x.asn = y.asn) (h2 : x.iface = y.iface) (h3 : x.rate = y.rate) (h4 : x.till = y.till) : x = y := by
  cases x; cases y; simp_all
theorem Resv.eq_iff (x y : Resv) : (decide (x = y) : Bool) = (!(x.id != y.id) && !(x.asn != y.asn) && !(x.iface != y.iface) && !(x.rate != y.rate) && !(x.till != y.till)) := by
  cases x; cases y; simp only [nbne, Resv.mk.injEq, Bool.decide_and, Bool.and_assoc]

def Resv.mk' (k : Int) : Resv := ⟨k, k + 1, k + 1 + 1, k + 1 + 1 + 1, k + 1 + 1 + 1 + 1⟩

def Resv.ok (x : Resv) : Prop := I64 x.id ∧ I64 x.asn ∧ I64 x.iface ∧ I64 x.rate ∧ I64 x.till

end Go.Proofs.Ytkolfiedakojoaa
