/- The data of the struct Revocation (Revc), how a slice of it reads, and the contracts of the laws' helper functions over it. No condition but the bounds that each theorem names. -/
import Derived.Test.YtkolfiedakojoaaOpen
namespace Go.Proofs.Ytkolfiedakojoaa
open Go.ChangeShapes Go.WideShapes Go.ChangeAt Go.RowKit Go.Deep

structure Revc where
  asn : Int
  iface : Int
  till : Int
  deriving DecidableEq
def Revc.f (x : Revc) : List Value := [.int .i64 x.asn, .int .i64 x.iface, .int .i64 x.till]
theorem Revc.flen (x : Revc) : x.f.length = 3 := rfl
def Revc.rep : Rep Revc := Rep.flat 3 Revc.f Revc.flen
theorem Revc.one (x : Revc) : ∀ u ∈ x.f, u.oneCell' = true := by
  intro u hu
  simp only [Revc.f, List.mem_cons, List.not_mem_nil, or_false] at hu
  rcases hu with rfl | rfl | rfl <;> rfl
theorem Revc.at {w : World} {o : Option Addr} {m cap : Nat} {l : List Revc} (h : RdS Revc.rep w (.slice o m cap) l) (k : Nat) (hk : k < l.length) :
    ∃ b off, o = some ⟨b, off, none⟩ ∧ w.cell? ⟨b, off + k * 3, none⟩ = some (.int .i64 l[k].asn) ∧ w.cell? ⟨b, off + k * 3 + 1, none⟩ = some (.int .i64 l[k].iface) ∧ w.cell? ⟨b, off + k * 3 + 2, none⟩ = some (.int .i64 l[k].till) := by
  obtain ⟨b, off, ho, hc⟩ := RdS.at_flat h k hk
  exact ⟨b, off, ho, by simpa using hc 0 _ rfl, by simpa using hc 1 _ rfl, by simpa using hc 2 _ rfl⟩
theorem Revc.at_ext {w w' : World} {b off k : Nat} {l : List Revc} {hk : k < l.length} (x : Ext w w') (h : w.cell? ⟨b, off + k * 3, none⟩ = some (.int .i64 l[k].asn) ∧ w.cell? ⟨b, off + k * 3 + 1, none⟩ = some (.int .i64 l[k].iface) ∧ w.cell? ⟨b, off + k * 3 + 2, none⟩ = some (.int .i64 l[k].till)) :
    w'.cell? ⟨b, off + k * 3, none⟩ = some (.int .i64 l[k].asn) ∧ w'.cell? ⟨b, off + k * 3 + 1, none⟩ = some (.int .i64 l[k].iface) ∧ w'.cell? ⟨b, off + k * 3 + 2, none⟩ = some (.int .i64 l[k].till) := by
  obtain ⟨h0, h1, h2⟩ := h
  exact ⟨x.cell h0, x.cell h1, x.cell h2⟩
theorem Revc.own_at {base : Nat} {e : TypeId} {w : World} {g m cap : Nat} {l : List Revc} (h : OwnF Revc.f 3 base e w (.slice (some ⟨g, 0, none⟩) m cap) l) (k : Nat) (hk : k < l.length) :
    w.cell? ⟨g, k * 3, none⟩ = some (.int .i64 l[k].asn) ∧ w.cell? ⟨g, k * 3 + 1, none⟩ = some (.int .i64 l[k].iface) ∧ w.cell? ⟨g, k * 3 + 2, none⟩ = some (.int .i64 l[k].till) := by
  have hc := OwnF.cells_flat Revc.flen h k hk
  exact ⟨by simpa using hc 0 _ rfl, by simpa using hc 1 _ rfl, by simpa using hc 2 _ rfl⟩
theorem Try.infoRevc : (Try.prog.info? 180).map (fun i => (i.zero, i.size, i.bytes)) = some (some (.agg #[.int .i64 0, .int .i64 0, .int .i64 0]), 3, 24) := by kernel_rfl
theorem Revc.sets {l : List Revc} {k : Nat} (hk : k < l.length) (x : Revc) : ((((l.flatMap Revc.f).set (k * 3) (.int .i64 x.asn)).set (k * 3 + 1) (.int .i64 x.iface)).set (k * 3 + 2) (.int .i64 x.till)) = (l.set k x).flatMap Revc.f := by
  induction l generalizing k with
  | nil => simp at hk
  | cons a l ih =>
    cases k with
    | zero => rfl
    | succ k =>
      have := ih (k := k) (by simpa using hk)
      simp only [List.flatMap_cons, List.set_cons_succ, ← this, Revc.f]
      rw [show (k + 1) * 3 = k * 3 + 1 + 1 + 1 from by omega]
      rfl
theorem Revc.own_set {base : Nat} {e : TypeId} {w : World} {g m cap : Nat} {l : List Revc} (h : OwnF Revc.f 3 base e w (.slice (some ⟨g, 0, none⟩) m cap) l) (k : Nat) (hk : k < l.length) (x : Revc) :
    OwnF Revc.f 3 base e (((w.setCell ⟨g, k * 3, none⟩ (.int .i64 x.asn)).setCell ⟨g, k * 3 + 1, none⟩ (.int .i64 x.iface)).setCell ⟨g, k * 3 + 2, none⟩ (.int .i64 x.till)) (.slice (some ⟨g, 0, none⟩) m cap) (l.set k x) ∧
      w.grownBy (((w.setCell ⟨g, k * 3, none⟩ (.int .i64 x.asn)).setCell ⟨g, k * 3 + 1, none⟩ (.int .i64 x.iface)).setCell ⟨g, k * 3 + 2, none⟩ (.int .i64 x.till)) (some g) := by
  obtain rfl := h.len
  obtain ⟨h0, g0⟩ := World.ownsRow.stored h (k * 3) (.int .i64 x.asn)
  obtain ⟨h1, g1⟩ := World.ownsRow.stored h0 (k * 3 + 1) (.int .i64 x.iface)
  obtain ⟨h2, g2⟩ := World.ownsRow.stored h1 (k * 3 + 2) (.int .i64 x.till)
  rw [Revc.sets hk] at h2
  refine ⟨?_, ((g0.trans g1).trans g2)⟩
  unfold OwnF
  rw [List.length_set]
  exact h2


theorem Revc.ext' {x y : Revc} (h0 : x.asn = y.asn) (h1 : x.iface = y.iface) (h2 : x.till = y.till) : x = y := by
  cases x; cases y; simp_all
theorem Revc.eq_iff (x y : Revc) : (decide (x = y) : Bool) = (!(x.asn != y.asn) && !(x.iface != y.iface) && !(x.till != y.till)) := by
  cases x; cases y; simp only [nbne, Revc.mk.injEq, Bool.decide_and, Bool.and_assoc]

def Revc.mk' (k : Int) : Revc := ⟨k, k + 1, k + 1 + 1⟩

def Revc.ok (x : Revc) : Prop := I64 x.asn ∧ I64 x.iface ∧ I64 x.till

end Go.Proofs.Ytkolfiedakojoaa
