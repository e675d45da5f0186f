/- What these laws need: FnExactFormatTrace, FnFinishes: Contracts of the functions on integers that the laws of this part reach. The data of the struct Revocation (Revc), how a slice of it reads, and the contracts of the laws' helper functions over it. The data of the struct Reservation (Resv), how a slice of it reads, and the contracts of the laws' helper functions over it. The data of the struct AS (ASd), how a slice of it reads, and the contracts of the laws' helper functions over it. The data of the struct Link (Lnk), how a slice of it reads, and the contracts of the laws' helper functions over it. The data of the struct Topology, how it reads, and the contracts of the laws' helper functions over it. Contracts of the arithmetic modulo the prime, program and reference. Contracts of turning parts around, program and reference. Marking and holding parts and paths: the contracts of the laws' helper functions. Slices of uint8: how they read, and the contracts of the laws' helper functions over them. The data of packets, how they read, what they own, and the contracts of the laws' helper functions over them. Appending one element that holds a slice of its own to a row of the call's own. Appending to an empty literal row makes new memory or nothing. -/
import Derived.Deep.LoopGhost
import Derived.ArgAppend
import Derived.Test.YtcpfmhgfaliemaaKN3
namespace Go.Proofs.Ytcpfmhgfaliemaa
section
open Go.ChangeShapes Go.WideShapes Go.ChangeAt Go.RowKit Go.Deep
def inR (n a b : Int) : Bool := decide (a ≤ n) && decide (n ≤ b)
theorem inR_true {n a b : Int} : inR n a b = true ↔ a ≤ n ∧ n ≤ b := by simp [inR]
set_option maxHeartbeats 400000 in
theorem i_InRange (n a b : Int) (w : World) :
  Calls Try.prog 63 #[.int .i64 n, .int .i64 a, .int .i64 b] w fun e w' => e = .returned (.bool (inR n a b)) ∧ w = w' := by
 go_enter Try.func63, Try.ntmps63
 go_wp2
 all_goals
  go_ret
  refine ⟨ret_bool ?_, rfl⟩
  simp [inR, *]
  try omega
set_option maxHeartbeats 400000 in
theorem s_l1In (n a b : Int) (w : World) :
  Calls Try.prog 69 #[.int .i64 n, .int .i64 a, .int .i64 b] w fun e w' => e = .returned (.bool (inR n a b)) ∧ w = w' := by
 go_enter Try.func69, Try.ntmps69
 go_wp2
 all_goals
  go_ret
  refine ⟨ret_bool ?_, rfl⟩
  simp [inR, *]
  try omega
end
section
open Go.ChangeShapes Go.WideShapes Go.ChangeAt Go.RowKit Go.Deep
structure Revc where
  asn : Int
  iface : Int
  till : Int
  deriving DecidableEq
def Revc.f (x : Revc) : List Value := [.int .i64 x.asn, .int .i64 x.iface, .int .i64 x.till]
theorem Revc.flen (x : Revc) : x.f.length = 3 := rfl
def Revc.rep : Rep Revc := Rep.flat 3 Revc.f Revc.flen
theorem Revc.one (x : Revc) : ∀ u ∈ x.f, u.oneCell' = true := by
  intro u hu
  simp only [Revc.f, List.mem_cons, List.not_mem_nil, or_false] at hu
  rcases hu with rfl | rfl | rfl <;> rfl
theorem Revc.at {w : World} {o : Option Addr} {m cap : Nat} {l : List Revc} (h : RdS Revc.rep w (.slice o m cap) l) (k : Nat) (hk : k < l.length) :
    ∃ b off, o = some ⟨b, off, none⟩ ∧ w.cell? ⟨b, off + k * 3, none⟩ = some (.int .i64 l[k].asn) ∧ w.cell? ⟨b, off + k * 3 + 1, none⟩ = some (.int .i64 l[k].iface) ∧ w.cell? ⟨b, off + k * 3 + 2, none⟩ = some (.int .i64 l[k].till) := by
  obtain ⟨b, off, ho, hc⟩ := RdS.at_flat h k hk
  exact ⟨b, off, ho, by simpa using hc 0 _ rfl, by simpa using hc 1 _ rfl, by simpa using hc 2 _ rfl⟩
theorem Revc.at_ext {w w' : World} {b off k : Nat} {l : List Revc} {hk : k < l.length} (x : Ext w w') (h : w.cell? ⟨b, off + k * 3, none⟩ = some (.int .i64 l[k].asn) ∧ w.cell? ⟨b, off + k * 3 + 1, none⟩ = some (.int .i64 l[k].iface) ∧ w.cell? ⟨b, off + k * 3 + 2, none⟩ = some (.int .i64 l[k].till)) :
    w'.cell? ⟨b, off + k * 3, none⟩ = some (.int .i64 l[k].asn) ∧ w'.cell? ⟨b, off + k * 3 + 1, none⟩ = some (.int .i64 l[k].iface) ∧ w'.cell? ⟨b, off + k * 3 + 2, none⟩ = some (.int .i64 l[k].till) := by
  obtain ⟨h0, h1, h2⟩ := h
  exact ⟨x.cell h0, x.cell h1, x.cell h2⟩
theorem Revc.own_at {base : Nat} {e : TypeId} {w : World} {g m cap : Nat} {l : List Revc} (h : OwnF Revc.f 3 base e w (.slice (some ⟨g, 0, none⟩) m cap) l) (k : Nat) (hk : k < l.length) :
    w.cell? ⟨g, k * 3, none⟩ = some (.int .i64 l[k].asn) ∧ w.cell? ⟨g, k * 3 + 1, none⟩ = some (.int .i64 l[k].iface) ∧ w.cell? ⟨g, k * 3 + 2, none⟩ = some (.int .i64 l[k].till) := by
  have hc := OwnF.cells_flat Revc.flen h k hk
  exact ⟨by simpa using hc 0 _ rfl, by simpa using hc 1 _ rfl, by simpa using hc 2 _ rfl⟩
theorem Revc.sets {l : List Revc} {k : Nat} (hk : k < l.length) (x : Revc) : ((((l.flatMap Revc.f).set (k * 3) (.int .i64 x.asn)).set (k * 3 + 1) (.int .i64 x.iface)).set (k * 3 + 2) (.int .i64 x.till)) = (l.set k x).flatMap Revc.f := by
  induction l generalizing k with
  | nil => simp at hk
  | cons a l ih =>
    cases k with
    | zero => rfl
    | succ k =>
      have := ih (k := k) (by simpa using hk)
      simp only [List.flatMap_cons, List.set_cons_succ, ← this, Revc.f]
      rw [show (k + 1) * 3 = k * 3 + 1 + 1 + 1 from by omega]
      rfl
theorem Revc.own_set {base : Nat} {e : TypeId} {w : World} {g m cap : Nat} {l : List Revc} (h : OwnF Revc.f 3 base e w (.slice (some ⟨g, 0, none⟩) m cap) l) (k : Nat) (hk : k < l.length) (x : Revc) :
    OwnF Revc.f 3 base e (((w.setCell ⟨g, k * 3, none⟩ (.int .i64 x.asn)).setCell ⟨g, k * 3 + 1, none⟩ (.int .i64 x.iface)).setCell ⟨g, k * 3 + 2, none⟩ (.int .i64 x.till)) (.slice (some ⟨g, 0, none⟩) m cap) (l.set k x) ∧
      w.grownBy (((w.setCell ⟨g, k * 3, none⟩ (.int .i64 x.asn)).setCell ⟨g, k * 3 + 1, none⟩ (.int .i64 x.iface)).setCell ⟨g, k * 3 + 2, none⟩ (.int .i64 x.till)) (some g) := by
  obtain rfl := h.len
  obtain ⟨h0, g0⟩ := World.ownsRow.stored h (k * 3) (.int .i64 x.asn)
  obtain ⟨h1, g1⟩ := World.ownsRow.stored h0 (k * 3 + 1) (.int .i64 x.iface)
  obtain ⟨h2, g2⟩ := World.ownsRow.stored h1 (k * 3 + 2) (.int .i64 x.till)
  rw [Revc.sets hk] at h2
  refine ⟨?_, ((g0.trans g1).trans g2)⟩
  unfold OwnF
  rw [List.length_set]
  exact h2
theorem Revc.ext' {x y : Revc} (h0 : x.asn = y.asn) (h1 : x.iface = y.iface) (h2 : x.till = y.till) : x = y := by
  cases x; cases y; simp_all
theorem Revc.eq_iff (x y : Revc) : (decide (x = y) : Bool) = (!(x.asn != y.asn) && !(x.iface != y.iface) && !(x.till != y.till)) := by
  cases x; cases y; simp only [nbne, Revc.mk.injEq, Bool.decide_and, Bool.and_assoc]
def Revc.mk' (k : Int) : Revc := ⟨k, k + 1, k + 1 + 1⟩
def Revc.ok (x : Revc) : Prop := I64 x.asn ∧ I64 x.iface ∧ I64 x.till
end
section
open Go.ChangeShapes Go.WideShapes Go.ChangeAt Go.RowKit Go.Deep
structure Resv where
  id : Int
  asn : Int
  iface : Int
  rate : Int
  till : Int
  deriving DecidableEq
def Resv.f (x : Resv) : List Value := [.int .i64 x.id, .int .i64 x.asn, .int .i64 x.iface, .int .i64 x.rate, .int .i64 x.till]
theorem Resv.flen (x : Resv) : x.f.length = 5 := rfl
def Resv.rep : Rep Resv := Rep.flat 5 Resv.f Resv.flen
theorem Resv.one (x : Resv) : ∀ u ∈ x.f, u.oneCell' = true := by
  intro u hu
  simp only [Resv.f, List.mem_cons, List.not_mem_nil, or_false] at hu
  rcases hu with rfl | rfl | rfl | rfl | rfl <;> rfl
theorem Resv.at {w : World} {o : Option Addr} {m cap : Nat} {l : List Resv} (h : RdS Resv.rep w (.slice o m cap) l) (k : Nat) (hk : k < l.length) :
    ∃ b off, o = some ⟨b, off, none⟩ ∧ w.cell? ⟨b, off + k * 5, none⟩ = some (.int .i64 l[k].id) ∧ w.cell? ⟨b, off + k * 5 + 1, none⟩ = some (.int .i64 l[k].asn) ∧ w.cell? ⟨b, off + k * 5 + 2, none⟩ = some (.int .i64 l[k].iface) ∧ w.cell? ⟨b, off + k * 5 + 3, none⟩ = some (.int .i64 l[k].rate) ∧ w.cell? ⟨b, off + k * 5 + 4, none⟩ = some (.int .i64 l[k].till) := by
  obtain ⟨b, off, ho, hc⟩ := RdS.at_flat h k hk
  exact ⟨b, off, ho, by simpa using hc 0 _ rfl, by simpa using hc 1 _ rfl, by simpa using hc 2 _ rfl, by simpa using hc 3 _ rfl, by simpa using hc 4 _ rfl⟩
theorem Resv.at_ext {w w' : World} {b off k : Nat} {l : List Resv} {hk : k < l.length} (x : Ext w w') (h : w.cell? ⟨b, off + k * 5, none⟩ = some (.int .i64 l[k].id) ∧ w.cell? ⟨b, off + k * 5 + 1, none⟩ = some (.int .i64 l[k].asn) ∧ w.cell? ⟨b, off + k * 5 + 2, none⟩ = some (.int .i64 l[k].iface) ∧ w.cell? ⟨b, off + k * 5 + 3, none⟩ = some (.int .i64 l[k].rate) ∧ w.cell? ⟨b, off + k * 5 + 4, none⟩ = some (.int .i64 l[k].till)) :
    w'.cell? ⟨b, off + k * 5, none⟩ = some (.int .i64 l[k].id) ∧ w'.cell? ⟨b, off + k * 5 + 1, none⟩ = some (.int .i64 l[k].asn) ∧ w'.cell? ⟨b, off + k * 5 + 2, none⟩ = some (.int .i64 l[k].iface) ∧ w'.cell? ⟨b, off + k * 5 + 3, none⟩ = some (.int .i64 l[k].rate) ∧ w'.cell? ⟨b, off + k * 5 + 4, none⟩ = some (.int .i64 l[k].till) := by
  obtain ⟨h0, h1, h2, h3, h4⟩ := h
  exact ⟨x.cell h0, x.cell h1, x.cell h2, x.cell h3, x.cell h4⟩
theorem Resv.own_at {base : Nat} {e : TypeId} {w : World} {g m cap : Nat} {l : List Resv} (h : OwnF Resv.f 5 base e w (.slice (some ⟨g, 0, none⟩) m cap) l) (k : Nat) (hk : k < l.length) :
    w.cell? ⟨g, k * 5, none⟩ = some (.int .i64 l[k].id) ∧ w.cell? ⟨g, k * 5 + 1, none⟩ = some (.int .i64 l[k].asn) ∧ w.cell? ⟨g, k * 5 + 2, none⟩ = some (.int .i64 l[k].iface) ∧ w.cell? ⟨g, k * 5 + 3, none⟩ = some (.int .i64 l[k].rate) ∧ w.cell? ⟨g, k * 5 + 4, none⟩ = some (.int .i64 l[k].till) := by
  have hc := OwnF.cells_flat Resv.flen h k hk
  exact ⟨by simpa using hc 0 _ rfl, by simpa using hc 1 _ rfl, by simpa using hc 2 _ rfl, by simpa using hc 3 _ rfl, by simpa using hc 4 _ rfl⟩
theorem Resv.sets {l : List Resv} {k : Nat} (hk : k < l.length) (x : Resv) : ((((((l.flatMap Resv.f).set (k * 5) (.int .i64 x.id)).set (k * 5 + 1) (.int .i64 x.asn)).set (k * 5 + 2) (.int .i64 x.iface)).set (k * 5 + 3) (.int .i64 x.rate)).set (k * 5 + 4) (.int .i64 x.till)) = (l.set k x).flatMap Resv.f := by
  induction l generalizing k with
  | nil => simp at hk
  | cons a l ih =>
    cases k with
    | zero => rfl
    | succ k =>
      have := ih (k := k) (by simpa using hk)
      simp only [List.flatMap_cons, List.set_cons_succ, ← this, Resv.f]
      rw [show (k + 1) * 5 = k * 5 + 1 + 1 + 1 + 1 + 1 from by omega]
      rfl
theorem Resv.own_set {base : Nat} {e : TypeId} {w : World} {g m cap : Nat} {l : List Resv} (h : OwnF Resv.f 5 base e w (.slice (some ⟨g, 0, none⟩) m cap) l) (k : Nat) (hk : k < l.length) (x : Resv) :
    OwnF Resv.f 5 base e (((((w.setCell ⟨g, k * 5, none⟩ (.int .i64 x.id)).setCell ⟨g, k * 5 + 1, none⟩ (.int .i64 x.asn)).setCell ⟨g, k * 5 + 2, none⟩ (.int .i64 x.iface)).setCell ⟨g, k * 5 + 3, none⟩ (.int .i64 x.rate)).setCell ⟨g, k * 5 + 4, none⟩ (.int .i64 x.till)) (.slice (some ⟨g, 0, none⟩) m cap) (l.set k x) ∧
      w.grownBy (((((w.setCell ⟨g, k * 5, none⟩ (.int .i64 x.id)).setCell ⟨g, k * 5 + 1, none⟩ (.int .i64 x.asn)).setCell ⟨g, k * 5 + 2, none⟩ (.int .i64 x.iface)).setCell ⟨g, k * 5 + 3, none⟩ (.int .i64 x.rate)).setCell ⟨g, k * 5 + 4, none⟩ (.int .i64 x.till)) (some g) := by
  obtain rfl := h.len
  obtain ⟨h0, g0⟩ := World.ownsRow.stored h (k * 5) (.int .i64 x.id)
  obtain ⟨h1, g1⟩ := World.ownsRow.stored h0 (k * 5 + 1) (.int .i64 x.asn)
  obtain ⟨h2, g2⟩ := World.ownsRow.stored h1 (k * 5 + 2) (.int .i64 x.iface)
  obtain ⟨h3, g3⟩ := World.ownsRow.stored h2 (k * 5 + 3) (.int .i64 x.rate)
  obtain ⟨h4, g4⟩ := World.ownsRow.stored h3 (k * 5 + 4) (.int .i64 x.till)
  rw [Resv.sets hk] at h4
  refine ⟨?_, ((((g0.trans g1).trans g2).trans g3).trans g4)⟩
  unfold OwnF
  rw [List.length_set]
  exact h4
theorem Resv.ext' {x y : Resv} (h0 : x.id = y.id) (h1 : x.asn = y.asn) (h2 : x.iface = y.iface) (h3 : x.rate = y.rate) (h4 : x.till = y.till) : x = y := by
  cases x; cases y; simp_all
theorem Resv.eq_iff (x y : Resv) : (decide (x = y) : Bool) = (!(x.id != y.id) && !(x.asn != y.asn) && !(x.iface != y.iface) && !(x.rate != y.rate) && !(x.till != y.till)) := by
  cases x; cases y; simp only [nbne, Resv.mk.injEq, Bool.decide_and, Bool.and_assoc]
def Resv.mk' (k : Int) : Resv := ⟨k, k + 1, k + 1 + 1, k + 1 + 1 + 1, k + 1 + 1 + 1 + 1⟩
def Resv.ok (x : Resv) : Prop := I64 x.id ∧ I64 x.asn ∧ I64 x.iface ∧ I64 x.rate ∧ I64 x.till
end
section
open Go.ChangeShapes Go.WideShapes Go.ChangeAt Go.RowKit Go.Deep
structure ASd where
  isd : Int
  core : Bool
  key : Int
  deriving DecidableEq
def ASd.f (x : ASd) : List Value := [.int .i64 x.isd, .bool x.core, .int .i64 x.key]
theorem ASd.flen (x : ASd) : x.f.length = 3 := rfl
def ASd.rep : Rep ASd := Rep.flat 3 ASd.f ASd.flen
theorem ASd.one (x : ASd) : ∀ u ∈ x.f, u.oneCell' = true := by
  intro u hu
  simp only [ASd.f, List.mem_cons, List.not_mem_nil, or_false] at hu
  rcases hu with rfl | rfl | rfl <;> rfl
theorem ASd.at {w : World} {o : Option Addr} {m cap : Nat} {l : List ASd} (h : RdS ASd.rep w (.slice o m cap) l) (k : Nat) (hk : k < l.length) :
    ∃ b off, o = some ⟨b, off, none⟩ ∧ w.cell? ⟨b, off + k * 3, none⟩ = some (.int .i64 l[k].isd) ∧ w.cell? ⟨b, off + k * 3 + 1, none⟩ = some (.bool l[k].core) ∧ w.cell? ⟨b, off + k * 3 + 2, none⟩ = some (.int .i64 l[k].key) := by
  obtain ⟨b, off, ho, hc⟩ := RdS.at_flat h k hk
  exact ⟨b, off, ho, by simpa using hc 0 _ rfl, by simpa using hc 1 _ rfl, by simpa using hc 2 _ rfl⟩
theorem ASd.at_ext {w w' : World} {b off k : Nat} {l : List ASd} {hk : k < l.length} (x : Ext w w') (h : w.cell? ⟨b, off + k * 3, none⟩ = some (.int .i64 l[k].isd) ∧ w.cell? ⟨b, off + k * 3 + 1, none⟩ = some (.bool l[k].core) ∧ w.cell? ⟨b, off + k * 3 + 2, none⟩ = some (.int .i64 l[k].key)) :
    w'.cell? ⟨b, off + k * 3, none⟩ = some (.int .i64 l[k].isd) ∧ w'.cell? ⟨b, off + k * 3 + 1, none⟩ = some (.bool l[k].core) ∧ w'.cell? ⟨b, off + k * 3 + 2, none⟩ = some (.int .i64 l[k].key) := by
  obtain ⟨h0, h1, h2⟩ := h
  exact ⟨x.cell h0, x.cell h1, x.cell h2⟩
theorem ASd.own_at {base : Nat} {e : TypeId} {w : World} {g m cap : Nat} {l : List ASd} (h : OwnF ASd.f 3 base e w (.slice (some ⟨g, 0, none⟩) m cap) l) (k : Nat) (hk : k < l.length) :
    w.cell? ⟨g, k * 3, none⟩ = some (.int .i64 l[k].isd) ∧ w.cell? ⟨g, k * 3 + 1, none⟩ = some (.bool l[k].core) ∧ w.cell? ⟨g, k * 3 + 2, none⟩ = some (.int .i64 l[k].key) := by
  have hc := OwnF.cells_flat ASd.flen h k hk
  exact ⟨by simpa using hc 0 _ rfl, by simpa using hc 1 _ rfl, by simpa using hc 2 _ rfl⟩
theorem Try.infoASd : (Try.prog.info? 118).map (fun i => (i.zero, i.size, i.bytes)) = some (some (.agg #[.int .i64 0, .bool false, .int .i64 0]), 3, 24) := by kernel_rfl
theorem ASd.sets {l : List ASd} {k : Nat} (hk : k < l.length) (x : ASd) : ((((l.flatMap ASd.f).set (k * 3) (.int .i64 x.isd)).set (k * 3 + 1) (.bool x.core)).set (k * 3 + 2) (.int .i64 x.key)) = (l.set k x).flatMap ASd.f := by
  induction l generalizing k with
  | nil => simp at hk
  | cons a l ih =>
    cases k with
    | zero => rfl
    | succ k =>
      have := ih (k := k) (by simpa using hk)
      simp only [List.flatMap_cons, List.set_cons_succ, ← this, ASd.f]
      rw [show (k + 1) * 3 = k * 3 + 1 + 1 + 1 from by omega]
      rfl
theorem ASd.own_set {base : Nat} {e : TypeId} {w : World} {g m cap : Nat} {l : List ASd} (h : OwnF ASd.f 3 base e w (.slice (some ⟨g, 0, none⟩) m cap) l) (k : Nat) (hk : k < l.length) (x : ASd) :
    OwnF ASd.f 3 base e (((w.setCell ⟨g, k * 3, none⟩ (.int .i64 x.isd)).setCell ⟨g, k * 3 + 1, none⟩ (.bool x.core)).setCell ⟨g, k * 3 + 2, none⟩ (.int .i64 x.key)) (.slice (some ⟨g, 0, none⟩) m cap) (l.set k x) ∧
      w.grownBy (((w.setCell ⟨g, k * 3, none⟩ (.int .i64 x.isd)).setCell ⟨g, k * 3 + 1, none⟩ (.bool x.core)).setCell ⟨g, k * 3 + 2, none⟩ (.int .i64 x.key)) (some g) := by
  obtain rfl := h.len
  obtain ⟨h0, g0⟩ := World.ownsRow.stored h (k * 3) (.int .i64 x.isd)
  obtain ⟨h1, g1⟩ := World.ownsRow.stored h0 (k * 3 + 1) (.bool x.core)
  obtain ⟨h2, g2⟩ := World.ownsRow.stored h1 (k * 3 + 2) (.int .i64 x.key)
  rw [ASd.sets hk] at h2
  refine ⟨?_, ((g0.trans g1).trans g2)⟩
  unfold OwnF
  rw [List.length_set]
  exact h2
theorem ASd.ext' {x y : ASd} (h0 : x.isd = y.isd) (h1 : x.core = y.core) (h2 : x.key = y.key) : x = y := by
  cases x; cases y; simp_all
theorem ASd.eq_iff (x y : ASd) : (decide (x = y) : Bool) = (!(x.isd != y.isd) && !(x.core != y.core) && !(x.key != y.key)) := by
  cases x; cases y; simp only [nbne, ASd.mk.injEq, Bool.decide_and, Bool.and_assoc]
def ASd.ok (x : ASd) : Prop := I64 x.isd ∧ I64 x.key
theorem ASd.opens : Opens Try.prog 120 ASd.rep ASd.ok := by
  intro H enc w base spare held fuel cs x h
  obtain ⟨xs, n, _, _, hcl, hxl, hf⟩ := DataW.trod_struct Try.underlying120 h
  have hC : Try.prog.cellsOf 120 = 3 := by kernel_rfl
  have hi1 : Try.prog.cellsOf 3 = 1 := by kernel_rfl
  have hb1 : Try.prog.cellsOf 4 = 1 := by kernel_rfl
  obtain ⟨c0, c1, c2, rfl⟩ := len3 (hcl.trans hC)
  obtain ⟨y0, y1, y2, rfl⟩ := len3 hxl
  have h0 := hf 0 _ rfl
  simp [hi1] at h0
  obtain ⟨n0, r0, k0⟩ := opens_int Try.underlying3 h0
  cases r0
  have h1 := hf 1 _ rfl
  simp [hb1] at h1
  obtain ⟨n1, r1, k1⟩ := opens_bool Try.underlying4 h1
  cases r1
  have h2 := hf 2 _ rfl
  simp [hi1] at h2
  obtain ⟨n2, r2, k2⟩ := opens_int Try.underlying3 h2
  cases r2
  exact ⟨⟨n0, n1, n2⟩, rfl, k0, k2⟩
theorem ASd.opensS : Opens Try.prog 22 ASd.rep.slice (fun l => ∀ x ∈ l, ASd.ok x) := opens_slice Try.underlying22 (by kernel_rfl) (by decide) ASd.opens
end
section
open Go.ChangeShapes Go.WideShapes Go.ChangeAt Go.RowKit Go.Deep
structure Lnk where
  a : Int
  ai : Int
  b : Int
  bi : Int
  kind : Int
  deriving DecidableEq
def Lnk.f (x : Lnk) : List Value := [.int .i64 x.a, .int .i64 x.ai, .int .i64 x.b, .int .i64 x.bi, .int .i64 x.kind]
theorem Lnk.flen (x : Lnk) : x.f.length = 5 := rfl
def Lnk.rep : Rep Lnk := Rep.flat 5 Lnk.f Lnk.flen
theorem Lnk.one (x : Lnk) : ∀ u ∈ x.f, u.oneCell' = true := by
  intro u hu
  simp only [Lnk.f, List.mem_cons, List.not_mem_nil, or_false] at hu
  rcases hu with rfl | rfl | rfl | rfl | rfl <;> rfl
theorem Lnk.at {w : World} {o : Option Addr} {m cap : Nat} {l : List Lnk} (h : RdS Lnk.rep w (.slice o m cap) l) (k : Nat) (hk : k < l.length) :
    ∃ b off, o = some ⟨b, off, none⟩ ∧ w.cell? ⟨b, off + k * 5, none⟩ = some (.int .i64 l[k].a) ∧ w.cell? ⟨b, off + k * 5 + 1, none⟩ = some (.int .i64 l[k].ai) ∧ w.cell? ⟨b, off + k * 5 + 2, none⟩ = some (.int .i64 l[k].b) ∧ w.cell? ⟨b, off + k * 5 + 3, none⟩ = some (.int .i64 l[k].bi) ∧ w.cell? ⟨b, off + k * 5 + 4, none⟩ = some (.int .i64 l[k].kind) := by
  obtain ⟨b, off, ho, hc⟩ := RdS.at_flat h k hk
  exact ⟨b, off, ho, by simpa using hc 0 _ rfl, by simpa using hc 1 _ rfl, by simpa using hc 2 _ rfl, by simpa using hc 3 _ rfl, by simpa using hc 4 _ rfl⟩
theorem Lnk.at_ext {w w' : World} {b off k : Nat} {l : List Lnk} {hk : k < l.length} (x : Ext w w') (h : w.cell? ⟨b, off + k * 5, none⟩ = some (.int .i64 l[k].a) ∧ w.cell? ⟨b, off + k * 5 + 1, none⟩ = some (.int .i64 l[k].ai) ∧ w.cell? ⟨b, off + k * 5 + 2, none⟩ = some (.int .i64 l[k].b) ∧ w.cell? ⟨b, off + k * 5 + 3, none⟩ = some (.int .i64 l[k].bi) ∧ w.cell? ⟨b, off + k * 5 + 4, none⟩ = some (.int .i64 l[k].kind)) :
    w'.cell? ⟨b, off + k * 5, none⟩ = some (.int .i64 l[k].a) ∧ w'.cell? ⟨b, off + k * 5 + 1, none⟩ = some (.int .i64 l[k].ai) ∧ w'.cell? ⟨b, off + k * 5 + 2, none⟩ = some (.int .i64 l[k].b) ∧ w'.cell? ⟨b, off + k * 5 + 3, none⟩ = some (.int .i64 l[k].bi) ∧ w'.cell? ⟨b, off + k * 5 + 4, none⟩ = some (.int .i64 l[k].kind) := by
  obtain ⟨h0, h1, h2, h3, h4⟩ := h
  exact ⟨x.cell h0, x.cell h1, x.cell h2, x.cell h3, x.cell h4⟩
theorem Lnk.own_at {base : Nat} {e : TypeId} {w : World} {g m cap : Nat} {l : List Lnk} (h : OwnF Lnk.f 5 base e w (.slice (some ⟨g, 0, none⟩) m cap) l) (k : Nat) (hk : k < l.length) :
    w.cell? ⟨g, k * 5, none⟩ = some (.int .i64 l[k].a) ∧ w.cell? ⟨g, k * 5 + 1, none⟩ = some (.int .i64 l[k].ai) ∧ w.cell? ⟨g, k * 5 + 2, none⟩ = some (.int .i64 l[k].b) ∧ w.cell? ⟨g, k * 5 + 3, none⟩ = some (.int .i64 l[k].bi) ∧ w.cell? ⟨g, k * 5 + 4, none⟩ = some (.int .i64 l[k].kind) := by
  have hc := OwnF.cells_flat Lnk.flen h k hk
  exact ⟨by simpa using hc 0 _ rfl, by simpa using hc 1 _ rfl, by simpa using hc 2 _ rfl, by simpa using hc 3 _ rfl, by simpa using hc 4 _ rfl⟩
theorem Try.infoLnk : (Try.prog.info? 122).map (fun i => (i.zero, i.size, i.bytes)) = some (some (.agg #[.int .i64 0, .int .i64 0, .int .i64 0, .int .i64 0, .int .i64 0]), 5, 40) := by kernel_rfl
theorem Lnk.sets {l : List Lnk} {k : Nat} (hk : k < l.length) (x : Lnk) : ((((((l.flatMap Lnk.f).set (k * 5) (.int .i64 x.a)).set (k * 5 + 1) (.int .i64 x.ai)).set (k * 5 + 2) (.int .i64 x.b)).set (k * 5 + 3) (.int .i64 x.bi)).set (k * 5 + 4) (.int .i64 x.kind)) = (l.set k x).flatMap Lnk.f := by
  induction l generalizing k with
  | nil => simp at hk
  | cons a l ih =>
    cases k with
    | zero => rfl
    | succ k =>
      have := ih (k := k) (by simpa using hk)
      simp only [List.flatMap_cons, List.set_cons_succ, ← this, Lnk.f]
      rw [show (k + 1) * 5 = k * 5 + 1 + 1 + 1 + 1 + 1 from by omega]
      rfl
theorem Lnk.own_set {base : Nat} {e : TypeId} {w : World} {g m cap : Nat} {l : List Lnk} (h : OwnF Lnk.f 5 base e w (.slice (some ⟨g, 0, none⟩) m cap) l) (k : Nat) (hk : k < l.length) (x : Lnk) :
    OwnF Lnk.f 5 base e (((((w.setCell ⟨g, k * 5, none⟩ (.int .i64 x.a)).setCell ⟨g, k * 5 + 1, none⟩ (.int .i64 x.ai)).setCell ⟨g, k * 5 + 2, none⟩ (.int .i64 x.b)).setCell ⟨g, k * 5 + 3, none⟩ (.int .i64 x.bi)).setCell ⟨g, k * 5 + 4, none⟩ (.int .i64 x.kind)) (.slice (some ⟨g, 0, none⟩) m cap) (l.set k x) ∧
      w.grownBy (((((w.setCell ⟨g, k * 5, none⟩ (.int .i64 x.a)).setCell ⟨g, k * 5 + 1, none⟩ (.int .i64 x.ai)).setCell ⟨g, k * 5 + 2, none⟩ (.int .i64 x.b)).setCell ⟨g, k * 5 + 3, none⟩ (.int .i64 x.bi)).setCell ⟨g, k * 5 + 4, none⟩ (.int .i64 x.kind)) (some g) := by
  obtain rfl := h.len
  obtain ⟨h0, g0⟩ := World.ownsRow.stored h (k * 5) (.int .i64 x.a)
  obtain ⟨h1, g1⟩ := World.ownsRow.stored h0 (k * 5 + 1) (.int .i64 x.ai)
  obtain ⟨h2, g2⟩ := World.ownsRow.stored h1 (k * 5 + 2) (.int .i64 x.b)
  obtain ⟨h3, g3⟩ := World.ownsRow.stored h2 (k * 5 + 3) (.int .i64 x.bi)
  obtain ⟨h4, g4⟩ := World.ownsRow.stored h3 (k * 5 + 4) (.int .i64 x.kind)
  rw [Lnk.sets hk] at h4
  refine ⟨?_, ((((g0.trans g1).trans g2).trans g3).trans g4)⟩
  unfold OwnF
  rw [List.length_set]
  exact h4
theorem Lnk.ext' {x y : Lnk} (h0 : x.a = y.a) (h1 : x.ai = y.ai) (h2 : x.b = y.b) (h3 : x.bi = y.bi) (h4 : x.kind = y.kind) : x = y := by
  cases x; cases y; simp_all
theorem Lnk.eq_iff (x y : Lnk) : (decide (x = y) : Bool) = (!(x.a != y.a) && !(x.ai != y.ai) && !(x.b != y.b) && !(x.bi != y.bi) && !(x.kind != y.kind)) := by
  cases x; cases y; simp only [nbne, Lnk.mk.injEq, Bool.decide_and, Bool.and_assoc]
def Lnk.mk' (k : Int) : Lnk := ⟨k, k + 1, k + 1 + 1, k + 1 + 1 + 1, k + 1 + 1 + 1 + 1⟩
def Lnk.ok (x : Lnk) : Prop := I64 x.a ∧ I64 x.ai ∧ I64 x.b ∧ I64 x.bi ∧ I64 x.kind
theorem Lnk.opens : Opens Try.prog 124 Lnk.rep Lnk.ok := by
  intro H enc w base spare held fuel cs x h
  obtain ⟨xs, n, _, _, hcl, hxl, hf⟩ := DataW.trod_struct Try.underlying124 h
  have hC : Try.prog.cellsOf 124 = 5 := by kernel_rfl
  have hi1 : Try.prog.cellsOf 3 = 1 := by kernel_rfl
  have hb1 : Try.prog.cellsOf 4 = 1 := by kernel_rfl
  obtain ⟨c0, c1, c2, c3, c4, rfl⟩ := len5 (hcl.trans hC)
  obtain ⟨y0, y1, y2, y3, y4, rfl⟩ := len5 hxl
  have h0 := hf 0 _ rfl
  simp [hi1] at h0
  obtain ⟨n0, r0, k0⟩ := opens_int Try.underlying3 h0
  cases r0
  have h1 := hf 1 _ rfl
  simp [hi1] at h1
  obtain ⟨n1, r1, k1⟩ := opens_int Try.underlying3 h1
  cases r1
  have h2 := hf 2 _ rfl
  simp [hi1] at h2
  obtain ⟨n2, r2, k2⟩ := opens_int Try.underlying3 h2
  cases r2
  have h3 := hf 3 _ rfl
  simp [hi1] at h3
  obtain ⟨n3, r3, k3⟩ := opens_int Try.underlying3 h3
  cases r3
  have h4 := hf 4 _ rfl
  simp [hi1] at h4
  obtain ⟨n4, r4, k4⟩ := opens_int Try.underlying3 h4
  cases r4
  exact ⟨⟨n0, n1, n2, n3, n4⟩, rfl, k0, k1, k2, k3, k4⟩
theorem Lnk.opensS : Opens Try.prog 23 Lnk.rep.slice (fun l => ∀ x ∈ l, Lnk.ok x) := opens_slice Try.underlying23 (by kernel_rfl) (by decide) Lnk.opens
end
section
open Go.ChangeShapes Go.WideShapes Go.ChangeAt Go.RowKit Go.Deep
structure Topo where
  ases : List ASd
  links : List Lnk
  deriving DecidableEq
def Topo.size (x : Topo) : Nat := x.ases.length + x.links.length
def Topo.rep : Rep Topo where
  cells := 2
  rd w cs x := ∃ v1 v2, cs = [v1, v2] ∧ RdS ASd.rep w v1 x.ases ∧ RdS Lnk.rep w v2 x.links
  len := by rintro w cs a ⟨v1, v2, rfl, _⟩; rfl
  ext := by rintro w w' cs a e ⟨v1, v2, rfl, h1, h2⟩; exact ⟨v1, v2, rfl, h1.ext e, h2.ext e⟩
def Topo.ok (x : Topo) : Prop := (∀ y ∈ x.ases, ASd.ok y) ∧ ∀ y ∈ x.links, Lnk.ok y
theorem Topo.opens : Opens Try.prog 25 Topo.rep Topo.ok := by
  intro H enc w base spare held fuel cs x h
  obtain ⟨xs, n, _, _, hcl, hxl, hf⟩ := DataW.trod_struct Try.underlying25 h
  have hC : Try.prog.cellsOf 25 = 2 := by kernel_rfl
  have hi2 : Try.prog.cellsOf 22 = 1 := by kernel_rfl
  have hi3 : Try.prog.cellsOf 23 = 1 := by kernel_rfl
  obtain ⟨c1, c2, rfl⟩ := len2 (hcl.trans hC)
  obtain ⟨y1, y2, rfl⟩ := len2 hxl
  have h1 := hf 0 _ rfl
  simp [hi2] at h1
  obtain ⟨l1, ⟨v1, e1, r1⟩, k1⟩ := ASd.opensS h1
  cases e1
  have h2 := hf 1 _ rfl
  simp [hi3] at h2
  obtain ⟨l2, ⟨v2, e2, r2⟩, k2⟩ := Lnk.opensS h2
  cases e2
  exact ⟨⟨l1, l2⟩, ⟨_, _, rfl, r1, r2⟩, k1, k2⟩
theorem szL_addT {left : Int} {n m : Nat} (_ : ¬ left - n < 0) : szL (left - n) m = szL left (n + m) := by
  unfold szL
  by_cases h2 : left - n - m < 0
  · rw [if_pos h2, if_pos (by omega)]
  · rw [if_neg h2, if_neg (by omega)]; omega
end
section
open Go.ChangeShapes Go.WideShapes Go.ChangeAt Go.RowKit Go.Deep
def isRes (n : Int) : Bool := inR n 0 2147483646
def addMod (b s : Int) : Int := if isRes b && isRes s then (b + s) % 2147483647 else 0
def subMod (b s : Int) : Int := if isRes b && isRes s then (b - s + 2147483647) % 2147483647 else 0
end
section
open Go.ChangeShapes Go.WideShapes Go.ChangeAt Go.RowKit Go.Deep
def betaTo (x : Part) : Nat → Int
 | 0 => x.beta
 | k + 1 => match x.hops[k]? with
  | some h => if isRev x.kind then subMod (betaTo x k) h.mac else addMod (betaTo x k) h.mac
  | none => betaTo x k
def betaAfter (x : Part) (i : Int) : Int := if 0 ≤ i ∧ i ≤ x.hops.length then betaTo x i.toNat else 0
end
section
open Go.ChangeShapes Go.WideShapes Go.ChangeAt Go.RowKit Go.Deep
section
variable {α β : Type} {n : Nat} {c : α → Value → List Value} {hc : ∀ a v, (c a v).length = n} {sub : α → List β} {e : TypeId} {I : Own β}
/-- Plain cells of the kth element are written; its inner slice stays. -/
theorem nest_row {S : Nat → Prop} {w w2 : World} {g m cap : Nat} {l : List α} (h : (Own.nest n c hc sub e I).own S w (.slice (some ⟨g, 0, none⟩) m cap) l) (k : Nat) (hk : k < l.length) (x : α) (hsub : sub x = sub l[k]) (hg : w.grownBy w2 (some g))
    (hrow : ∀ (qs : List (Cap α)) (_ : qs.map (·.dat) = l) (hk' : k < qs.length), OwnF (capF c) n 0 e w (.slice (some ⟨g, 0, none⟩) m cap) qs → OwnF (capF c) n 0 e w2 (.slice (some ⟨g, 0, none⟩) m cap) (qs.set k ⟨x, qs[k].val, qs[k].set⟩)) :
    (Own.nest n c hc sub e I).own S w2 (.slice (some ⟨g, 0, none⟩) m cap) (l.set k x) := by
  obtain ⟨qs, rfl, ho, hS, hq, hd⟩ := h
  have hk' : k < qs.length := by simpa using hk
  have hch : Chg (fun b => b = g) w w2 := Chg.ofGrown hg (fun k hk => by cases hk; rfl)
  have hne : ∀ b, (Value.slice (some ⟨g, 0, none⟩) m cap).ownBlock ≠ some b → ¬ b = g := fun b h e => h (by rw [e]; rfl)
  refine ⟨qs.set k ⟨x, qs[k].val, qs[k].set⟩, by simp [List.map_set], hrow qs rfl hk' ho, hS, fun q hqm => ?_, fun i j hi hj hne' b hbi => ?_⟩
  · obtain ⟨i, hi, rfl⟩ := List.getElem_of_mem hqm
    have hi' : i < qs.length := by simpa using hi
    rw [List.getElem_set]
    by_cases hki : k = i
    · subst hki
      simp only [if_pos]
      obtain ⟨a1, a2⟩ := hq qs[k] (List.getElem_mem _)
      refine ⟨?_, fun b hb => ⟨(a2 b hb).1, (a2 b hb).2.1, Nat.lt_of_lt_of_le (a2 b hb).2.2 hch.size⟩⟩
      have := I.kept a1 hch (fun b hb => hne b (a2 b hb).2.1)
      rw [hsub]
      simpa using this
    · rw [if_neg hki]
      obtain ⟨a1, a2⟩ := hq qs[i] (List.getElem_mem _)
      exact ⟨I.kept a1 hch (fun b hb => hne b (a2 b hb).2.1), fun b hb => ⟨(a2 b hb).1, (a2 b hb).2.1, Nat.lt_of_lt_of_le (a2 b hb).2.2 hch.size⟩⟩
  · have hi' : i < qs.length := by simpa using hi
    have hj' : j < qs.length := by simpa using hj
    rw [List.getElem_set] at hbi ⊢
    have s1 : qs[i].set b := by
      by_cases e1 : k = i
      · subst e1; simpa using hbi
      · rw [if_neg e1] at hbi; exact hbi
    have s2 := hd i j hi' hj' hne' b s1
    by_cases e2 : k = j
    · subst e2; simpa using s2
    · rw [if_neg e2]; exact s2
end
theorem Chg.blk {lo hi : Nat} {w w' : World} (c : Chg (rng lo hi) w w') {b : Nat} {o : Obj} (h : w.heap[b]? = some o) (hb : b < lo ∨ hi ≤ b) : w'.heap[b]? = some o :=
  (c.block b (blk_lt h) (fun hs => by rcases hb with hb | hb <;> have := hs.1 <;> have := hs.2 <;> omega)).trans h
theorem rng_apart {a b c d : Nat} (h : b ≤ c ∨ d ≤ a) : ∀ x, rng a b x → ¬ rng c d x := by
  intro x h1 h2
  have := h1.1; have := h1.2; have := h2.1; have := h2.2
  omega
def markPart (k : Int) (x : Part) : Part := ⟨k, k + 1, k + 1 + 1, markL Hop.mk' 5 (k + 1 + 1 + 1) x.hops.length⟩
def markParts (k : Int) : List Part → List Part
  | [] => []
  | x :: l => markPart k x :: markParts (k + 3 + 5 * x.hops.length) l
def markN (l : List Part) : Int := 3 * l.length + 5 * hopsN l
theorem markParts_len (k : Int) (l : List Part) : (markParts k l).length = l.length := by
  induction l generalizing k with
  | nil => rfl
  | cons x l ih => simp [markParts, ih]
theorem hopsN_cons (x : Part) (l : List Part) : hopsN (x :: l) = x.hops.length + hopsN l := by simp [hopsN, Part.size]
theorem markParts_at (k : Int) (l : List Part) (j : Nat) (hj : j < l.length) : (markParts k l)[j]'(by rw [markParts_len]; exact hj) = markPart (k + 3 * j + 5 * hopsN (l.take j)) l[j] := by
  induction l generalizing k j with
  | nil => simp at hj
  | cons x l ih =>
    cases j with
    | zero => simp [markParts, hopsN]
    | succ j =>
      have h := ih (k + 3 + 5 * x.hops.length) j (by simpa using hj)
      have e1 : k + 3 + 5 * (x.hops.length : Int) + 3 * (j : Int) + 5 * ((hopsN (l.take j) : Nat) : Int) = k + 3 * ((j + 1 : Nat) : Int) + 5 * ((hopsN ((x :: l).take (j + 1)) : Nat) : Int) := by
        rw [List.take_succ_cons, hopsN_cons]; omega
      rw [e1] at h
      simpa [markParts] using h
theorem markParts_hops (k : Int) (l : List Part) : hopsN (markParts k l) = hopsN l := by
  induction l generalizing k with
  | nil => rfl
  | cons x l ih => rw [markParts, hopsN_cons, hopsN_cons, ih]; simp [markPart, markL]
theorem take_snocM {α : Type} {xs ms : List α} {j : Nat} (h : xs.take j = ms.take j) (hj : j < xs.length) (hm : j < ms.length) (y : α) (hy : ms[j] = y) : (xs.set j y).take (j + 1) = ms.take (j + 1) := by
  rw [List.take_succ_eq_append_getElem (by simpa using hj), List.take_succ_eq_append_getElem hm, List.take_set_of_le (Nat.le_refl _), h]
  simp [hy]
theorem drop_snocM {α : Type} {xs l : List α} {j : Nat} (h : xs.drop j = l.drop j) (y : α) : (xs.set j y).drop (j + 1) = l.drop (j + 1) := by
  rw [List.drop_set_of_lt (by omega), ← List.drop_drop, h, List.drop_drop]
theorem drop_getM {α : Type} {xs l : List α} {j : Nat} (h : xs.drop j = l.drop j) (h1 : j < xs.length) (h2 : j < l.length) : xs[j] = l[j] := by
  rw [List.drop_eq_getElem_cons h1, List.drop_eq_getElem_cons h2] at h
  exact (List.cons.inj h).1
def Hop.ownS : Own Hop := Own.flat Hop.f 5 Hop.flen 108
end
section
open Go.ChangeShapes Go.WideShapes Go.ChangeAt Go.RowKit Go.Deep
def byteF (n : Int) : List Value := [.int .u8 n]
theorem byteFlen (n : Int) : (byteF n).length = 1 := rfl
theorem byteOne (n : Int) : ∀ u ∈ byteF n, u.oneCell' = true := by
  intro u hu
  simp only [byteF, List.mem_cons, List.not_mem_nil, or_false] at hu
  rw [hu]; rfl
theorem bytes_rep {base : Nat} {e : TypeId} {w : World} {v : Value} {l : List Int} (h : OwnF byteF 1 base e w v l) : RdS Rep.byte w v l := OwnF.rd (hf := byteFlen) h
theorem bytes_at {w : World} {o : Option Addr} {m cap : Nat} {l : List Int} (h : RdS Rep.byte w (.slice o m cap) l) (k : Nat) (hk : k < l.length) :
    ∃ b off, o = some ⟨b, off, none⟩ ∧ w.cell? ⟨b, off + k, none⟩ = some (.int .u8 l[k]) := by
  obtain ⟨b, off, ho, hc⟩ := RdS.at_flat h k hk
  exact ⟨b, off, ho, by simpa using hc 0 _ rfl⟩
theorem bytes_own_at {base : Nat} {e : TypeId} {w : World} {g m cap : Nat} {l : List Int} (h : OwnF byteF 1 base e w (.slice (some ⟨g, 0, none⟩) m cap) l) (k : Nat) (hk : k < l.length) :
    w.cell? ⟨g, k, none⟩ = some (.int .u8 l[k]) := by
  have hc := OwnF.cells_flat byteFlen h k hk
  simpa using hc 0 _ rfl
theorem bytes_sets {l : List Int} {k : Nat} (x : Int) : (l.flatMap byteF).set k (.int .u8 x) = (l.set k x).flatMap byteF := by
  induction l generalizing k with
  | nil => simp
  | cons a l ih =>
    cases k with
    | zero => rfl
    | succ k =>
      have := ih (k := k)
      simp only [List.flatMap_cons, List.set_cons_succ, ← this, byteF]
      rfl
theorem bytes_own_set {base : Nat} {e : TypeId} {w : World} {g m cap : Nat} {l : List Int} (h : OwnF byteF 1 base e w (.slice (some ⟨g, 0, none⟩) m cap) l) (k : Nat) (x : Int) :
    OwnF byteF 1 base e (w.setCell ⟨g, k, none⟩ (.int .u8 x)) (.slice (some ⟨g, 0, none⟩) m cap) (l.set k x) ∧ w.grownBy (w.setCell ⟨g, k, none⟩ (.int .u8 x)) (some g) := by
  obtain rfl := h.len
  obtain ⟨h0, g0⟩ := World.ownsRow.stored h k (.int .u8 x)
  rw [bytes_sets] at h0
  refine ⟨?_, g0⟩
  unfold OwnF
  rw [List.length_set]
  exact h0
theorem Try.infoByte : (Try.prog.info? 5).map (fun i => (i.zero, i.size, i.bytes)) = some (some (.int .u8 0), 1, 1) := by kernel_rfl
theorem elemByte : Nonempty (Elem Try.prog 30 5 1 1) := Elem.mk' Try.underlying30 Try.infoByte rfl (by decide)
theorem opensBytes : Opens Try.prog 30 Rep.byte.slice (fun l => ∀ x ∈ l, U8 x) := opens_slice Try.underlying30 (by kernel_rfl) (by decide) (opens_byte Try.underlying5)
def byteMk (k : Int) : Int := k % 256
end
section
open Go.ChangeShapes Go.WideShapes Go.ChangeAt Go.RowKit Go.Deep
theorem blk10 {w : World} {b : Nat} {x0 x1 x2 x3 x4 x5 x6 x7 x8 x9 : Value} {t : TypeId} {f : Nat × Nat} (h : w.heap[b]? = some (.cells #[x0, x1, x2, x3, x4, x5, x6, x7, x8, x9] t f)) :
    w.cell? ⟨b, 0, none⟩ = some x0 ∧ w.cell? ⟨b, 1, none⟩ = some x1 ∧ w.cell? ⟨b, 2, none⟩ = some x2 ∧ w.cell? ⟨b, 3, none⟩ = some x3 ∧ w.cell? ⟨b, 4, none⟩ = some x4 ∧ w.cell? ⟨b, 5, none⟩ = some x5 ∧ w.cell? ⟨b, 6, none⟩ = some x6 ∧ w.cell? ⟨b, 7, none⟩ = some x7 ∧ w.cell? ⟨b, 8, none⟩ = some x8 ∧ w.cell? ⟨b, 9, none⟩ = some x9 :=
  ⟨blk_cell h 0, blk_cell h 1, blk_cell h 2, blk_cell h 3, blk_cell h 4, blk_cell h 5, blk_cell h 6, blk_cell h 7, blk_cell h 8, blk_cell h 9⟩
theorem len10 {α : Type} : ∀ {cs : List α}, cs.length = 10 → ∃ a0 a1 a2 a3 a4 a5 a6 a7 a8 a9, cs = [a0, a1, a2, a3, a4, a5, a6, a7, a8, a9]
  | [a0, a1, a2, a3, a4, a5, a6, a7, a8, a9], _ => ⟨a0, a1, a2, a3, a4, a5, a6, a7, a8, a9, rfl⟩
theorem Chg.setCell {S : Nat → Prop} {a b : World} (h : Chg S a b) {p : Addr} (hp : S p.block) (u : Value) : Chg S a (b.setCell p u) :=
  h.trans ⟨rfl, rfl, rfl, by simp, fun k _ hn => Below.heap_setCell _ _ _ _ (fun e => hn (by rw [e]; exact hp))⟩
structure Pkt where
  kind : Int
  src : Int
  dst : Int
  path : Pth
  pi : Int
  hi : Int
  beta : Int
  rid : Int
  seq : Int
  pay : List Int
  deriving DecidableEq
def Pkt.c (x : Pkt) (h0 h1 : Value) : List Value := [.int .i64 x.kind, .int .i64 x.src, .int .i64 x.dst, h0, .int .i64 x.pi, .int .i64 x.hi, .int .i64 x.beta, .int .i64 x.rid, .int .i64 x.seq, h1]
def Pkt.size (x : Pkt) : Nat := x.path.size + x.pay.length
def Pkt.rep : Rep Pkt where
  cells := 10
  rd w cs x := ∃ v0 v1, cs = [.int .i64 x.kind, .int .i64 x.src, .int .i64 x.dst, v0, .int .i64 x.pi, .int .i64 x.hi, .int .i64 x.beta, .int .i64 x.rid, .int .i64 x.seq, v1] ∧ RdS Part.rep w v0 x.path.parts ∧ RdS Rep.byte w v1 x.pay
  len := by rintro w cs a ⟨v0, v1, rfl, _⟩; rfl
  ext := by rintro w w' cs a e ⟨v0, v1, rfl, h0, h1⟩; exact ⟨v0, v1, rfl, h0.ext e, h1.ext e⟩
def Pkt.ok (x : Pkt) : Prop := I64 x.kind ∧ I64 x.src ∧ I64 x.dst ∧ x.path.ok ∧ I64 x.pi ∧ I64 x.hi ∧ I64 x.beta ∧ I64 x.rid ∧ I64 x.seq ∧ ∀ y ∈ x.pay, U8 y
set_option maxHeartbeats 1000000 in
theorem Pkt.opens : Opens Try.prog 32 Pkt.rep Pkt.ok := by
  intro H enc w base spare held fuel cs x h
  obtain ⟨xs, n, _, _, hcl, hxl, hf⟩ := DataW.trod_struct Try.underlying32 h
  have hC : Try.prog.cellsOf 32 = 10 := by kernel_rfl
  have hi1 : Try.prog.cellsOf 3 = 1 := by kernel_rfl
  have hi2 : Try.prog.cellsOf 29 = 1 := by kernel_rfl
  have hi3 : Try.prog.cellsOf 30 = 1 := by kernel_rfl
  obtain ⟨c0, c1, c2, c3, c4, c5, c6, c7, c8, c9, rfl⟩ := len10 (hcl.trans hC)
  obtain ⟨y0, y1, y2, y3, y4, y5, y6, y7, y8, y9, rfl⟩ := len10 hxl
  have h0 := hf 0 _ rfl
  simp [hi1] at h0
  obtain ⟨n0, r0, k0⟩ := opens_int Try.underlying3 h0
  cases r0
  have h1 := hf 1 _ rfl
  simp [hi1] at h1
  obtain ⟨n1, r1, k1⟩ := opens_int Try.underlying3 h1
  cases r1
  have h2 := hf 2 _ rfl
  simp [hi1] at h2
  obtain ⟨n2, r2, k2⟩ := opens_int Try.underlying3 h2
  cases r2
  have h3 := hf 3 _ rfl
  simp [hi2] at h3
  obtain ⟨l3, ⟨v3, e3, r3⟩, k3⟩ := Pth.opens h3
  cases e3
  have h4 := hf 4 _ rfl
  simp [hi1] at h4
  obtain ⟨n4, r4, k4⟩ := opens_int Try.underlying3 h4
  cases r4
  have h5 := hf 5 _ rfl
  simp [hi1] at h5
  obtain ⟨n5, r5, k5⟩ := opens_int Try.underlying3 h5
  cases r5
  have h6 := hf 6 _ rfl
  simp [hi1] at h6
  obtain ⟨n6, r6, k6⟩ := opens_int Try.underlying3 h6
  cases r6
  have h7 := hf 7 _ rfl
  simp [hi1] at h7
  obtain ⟨n7, r7, k7⟩ := opens_int Try.underlying3 h7
  cases r7
  have h8 := hf 8 _ rfl
  simp [hi1] at h8
  obtain ⟨n8, r8, k8⟩ := opens_int Try.underlying3 h8
  cases r8
  have h9 := hf 9 _ rfl
  simp [hi3] at h9
  obtain ⟨l9, ⟨v9, e9, r9⟩, k9⟩ := opensBytes h9
  cases e9
  exact ⟨⟨n0, n1, n2, l3, n4, n5, n6, n7, n8, l9⟩, ⟨_, _, rfl, r3, r9⟩, k0, k1, k2, k3, k4, k5, k6, k7, k8, k9⟩
def byteOwn : Own Int := Own.flat byteF 1 byteFlen 5
/-- What a packet's two handles own: two sets that share no block. -/
def Pkt.own (S : Nat → Prop) (w : World) (h0 h1 : Value) (x : Pkt) : Prop :=
  ∃ S0 S1 : Nat → Prop, Part.own.own S0 w h0 x.path.parts ∧ byteOwn.own S1 w h1 x.pay ∧ (∀ b, S0 b → S b) ∧ (∀ b, S1 b → S b) ∧ ∀ b, S0 b → ¬ S1 b
theorem Pkt.own_kept {S T : Nat → Prop} {w w' : World} {h0 h1 : Value} {x : Pkt} (h : Pkt.own S w h0 h1 x) (c : Chg T w w') (hs : ∀ b, S b → ¬ T b) : Pkt.own S w' h0 h1 x := by
  obtain ⟨S0, S1, a, b, c0, c1, d⟩ := h
  exact ⟨S0, S1, Part.own.kept a c (fun k hk => hs k (c0 k hk)), byteOwn.kept b c (fun k hk => hs k (c1 k hk)), c0, c1, d⟩
theorem Pkt.own_ext {S : Nat → Prop} {w w' : World} {h0 h1 : Value} {x : Pkt} (h : Pkt.own S w h0 h1 x) (e : Ext w w') : Pkt.own S w' h0 h1 x :=
  Pkt.own_kept h (Chg.ofExt (S := noB) e) (fun _ _ h => h)
theorem Pkt.own_mono {S T : Nat → Prop} {w : World} {h0 h1 : Value} {x : Pkt} (h : Pkt.own S w h0 h1 x) (hs : ∀ b, S b → T b) : Pkt.own T w h0 h1 x := by
  obtain ⟨S0, S1, a, b, c0, c1, d⟩ := h
  exact ⟨S0, S1, a, b, fun k hk => hs k (c0 k hk), fun k hk => hs k (c1 k hk), d⟩
theorem Pkt.own_rd0 {S : Nat → Prop} {w : World} {h0 h1 : Value} {x : Pkt} (h : Pkt.own S w h0 h1 x) : RdS Part.rep w h0 x.path.parts := by
  obtain ⟨S0, S1, a, _⟩ := h; exact Part.own.rd a
theorem Pkt.own_rd1 {S : Nat → Prop} {w : World} {h0 h1 : Value} {x : Pkt} (h : Pkt.own S w h0 h1 x) : RdS Rep.byte w h1 x.pay := by
  obtain ⟨S0, S1, _, b, _⟩ := h; exact byteOwn.rd b
theorem Pkt.own_inb {S : Nat → Prop} {w : World} {h0 h1 : Value} {x : Pkt} (h : Pkt.own S w h0 h1 x) : Pkt.own (fun b => S b ∧ b < w.heap.size) w h0 h1 x := by
  obtain ⟨S0, S1, a, b, c0, c1, d⟩ := h
  exact ⟨_, _, Part.own.inb a, byteOwn.inb b, fun k hk => ⟨c0 k hk.1, hk.2⟩, fun k hk => ⟨c1 k hk.1, hk.2⟩, fun k hk h2 => d k hk.1 h2.1⟩
def Pkt.cnt (x : Pkt) : Int := markN x.path.parts + 1 * x.pay.length
def Pkt.marked (k : Int) (x : Pkt) : Pkt := { x with path := ⟨markParts k x.path.parts⟩, pay := markL byteMk 1 (k + markN x.path.parts) x.pay.length }
theorem Pkt.cnt_le {x : Pkt} (h : x.size ≤ 1048576) : 0 ≤ x.cnt ∧ x.cnt ≤ 5242880 := by
  unfold Pkt.size Pth.size at h; unfold Pkt.cnt markN; omega
theorem Pkt.cnt_parts {x : Pkt} : 0 ≤ markN x.path.parts ∧ markN x.path.parts ≤ x.cnt := by unfold Pkt.cnt markN; omega
end
section
open Go.ChangeShapes Go.WideShapes Go.ChangeAt Go.RowKit Go.Deep
section
variable {P : Program} {w : World} {ops : Array Oper} {rest : List Oper} {o : Oper} {a : Act} {Q : Exit → Act → World → Prop}
/-- append(out, x), and where the new row lies; what x's cells are is asked of x alone. -/
theorem app1p {t e : TypeId} {n bytes : Nat} (E : Elem P t e n bytes) {α : Type} {f : α → List Value} (hf : ∀ a, (f a).length = n) (hgd : o.guard = none) (s x : Operand)
    (ho : o.op = .call { callee := .builtin .append, args := #[s, x], argTypes := #[t, t] }) {base : Nat} {v : Value} {l : List α} (b : α) (h1 : ∀ u ∈ f b, u.oneCell' = true) (hs : a.eval s = v) (hown : OwnF f n base e w v l)
    {g c : Nat} (hx : a.eval x = .slice (some ⟨g, 0, none⟩) 1 c) (hnews : ∀ j u, (f b)[j]? = some u → w.cell? ⟨g, j, none⟩ = some u)
    (hl : (l.length + 1) * bytes ≤ 140737488355328) (hm : l.length + 1 ≤ maxLen) (hbase : base ≤ w.heap.size)
    (h : ∀ v' w', OwnF f n base e w' v' (l ++ [b]) → w.grownBy w' v.ownBlock → (v'.ownBlock = v.ownBlock ∨ v'.ownBlock = some w.heap.size) → wpList P ops Q rest (a.put o.dst v') w') : wpList P ops Q (o :: rest) a w := by
  refine wpList_append_own_at w hgd s x t ho base e E.i E.z n bytes E.ht E.hi E.hz E.hsize E.hby E.hzs E.hpos v l.length (l.flatMap f) hs hown ⟨g, 0, none⟩ 1 c (f b) hx (by rw [hf, Nat.one_mul]) ?_ h1 hm hl hbase ?_
  · intro j u hu
    have hadd : (⟨g, 0, none⟩ : Addr).add j = ⟨g, j, none⟩ := by unfold Addr.add; split <;> simp_all
    rw [hadd]
    exact hnews j u hu
  · intro v' w' ho' hg _ hat
    refine h v' w' ?_ hg hat
    unfold OwnF
    rw [List.length_append, List.flatMap_append, List.flatMap_cons, List.flatMap_nil, List.append_nil]
    exact ho'
variable {α β : Type} {n : Nat} {c : α → Value → List Value} {hc : ∀ a v, (c a v).length = n} {sub : α → List β} {e : TypeId} {I : Own β}
/-- append(out, x) where x holds a new slice: lo is where the call began. -/
theorem appN {t : TypeId} {bytes lo : Nat} (E : Elem P t e n bytes) (hgd : o.guard = none) (s x : Operand)
    (ho : o.op = .call { callee := .builtin .append, args := #[s, x], argTypes := #[t, t] }) {w0 : World} {v : Value} {l : List α} (b : α) (hv : Value) (T : Nat → Prop)
    (h1 : ∀ u ∈ c b hv, u.oneCell' = true) (hs : a.eval s = v) (hown : (Own.nest n c hc sub e I).own (rng lo w0.heap.size) w0 v l) (hx0 : Ext w0 w) (hi : I.own T w hv (sub b)) (hT : ∀ q, T q → w0.heap.size ≤ q ∧ q < w.heap.size) (hlo : lo ≤ w0.heap.size)
    {g cp : Nat} (hx : a.eval x = .slice (some ⟨g, 0, none⟩) 1 cp) (hnews : ∀ j u, (c b hv)[j]? = some u → w.cell? ⟨g, j, none⟩ = some u)
    (hl : (l.length + 1) * bytes ≤ 140737488355328) (hm : l.length + 1 ≤ maxLen)
    (h : ∀ v' w', (Own.nest n c hc sub e I).own (rng lo w'.heap.size) w' v' (l ++ [b]) → w.grownBy w' v.ownBlock → (∀ q, v.ownBlock = some q → lo ≤ q) → wpList P ops Q rest (a.put o.dst v') w') : wpList P ops Q (o :: rest) a w := by
  obtain ⟨qs, hq, hoq, hS, hqq, hd⟩ := hown
  have hlq : qs.length = l.length := by rw [← hq, List.length_map]
  refine app1p E (f := capF c) (fun q : Cap α => hc q.dat q.val) hgd s x ho (⟨b, hv, T⟩ : Cap α) h1 hs (hoq.ext hx0) hx hnews (by rw [hlq]; exact hl) (by rw [hlq]; exact hm) (Nat.zero_le _) ?_
  intro v' w' ho' hg hat
  refine h v' w' ?_ hg (fun q hq => (hS q hq).1)
  refine nest_push (S := rng lo w0.heap.size) (T := T) qs b hv hq hS hqq hd (fun k hk => (hS k hk).2) hx0 hi (fun q hTq => ⟨⟨Nat.le_trans hlo (hT q hTq).1, Nat.lt_of_lt_of_le (hT q hTq).2 hg.size⟩, (hT q hTq).1, (hT q hTq).2⟩) (fun q hq => ⟨hq.1, Nat.lt_of_lt_of_le hq.2 (Nat.le_trans hx0.size hg.size)⟩) hg ?_ ho'
  rcases hat with h2 | h2
  · exact .inl h2
  · exact .inr ⟨_, h2, Nat.le_refl _, ⟨Nat.le_trans hlo hx0.size, (ho'.block _ h2).2⟩⟩
end
end
section
open Go.ChangeShapes Go.WideShapes Go.ChangeAt Go.RowKit Go.Deep
section
variable {P : Program} {w : World} {ops : Array Oper} {rest : List Oper} {o : Oper} {a : Act} {Q : Exit → Act → World → Prop}
theorem appE {t e : TypeId} {n bytes : Nat} (E : Elem P t e n bytes) {α : Type} {f : α → List Value} (hf : ∀ a, (f a).length = n) (h1 : ∀ b, ∀ u ∈ f b, u.oneCell' = true) (hgd : o.guard = none) (s x : Operand)
    (ho : o.op = .call { callee := .builtin .append, args := #[s, x], argTypes := #[t, t] }) {base g : Nat} {vs : Value} (src : List α) (hs : a.eval s = .slice (some ⟨g, 0, none⟩) 0 0) (hown : OwnF f n base e w (.slice (some ⟨g, 0, none⟩) 0 0) [])
    (hx : a.eval x = vs) (hsrc : RdS (Rep.flat n f hf) w vs src) (hl : src.length * bytes ≤ 140737488355328) (hm : src.length ≤ maxLen) (hbase : base ≤ w.heap.size)
    (h : ∀ v' w', OwnF f n base e w' v' src → Ext w w' → wpList P ops Q rest (a.put o.dst v') w') : wpList P ops Q (o :: rest) a w := by
  obtain ⟨oa, cap, rfl, hc1, hc2, hn0, hel⟩ := hsrc
  cases oa with
  | none =>
    have hnil : src = [] := by
      cases src with
      | nil => rfl
      | cons b src => obtain ⟨_, _, _, he, _⟩ := hel 0 (by simp); cases he
    subst hnil
    obtain rfl := hn0 rfl
    refine wpList_append_own_none hgd s x t ho base e E.i n E.ht E.hi _ 0 [] hs hown hx ?_
    exact h _ w hown (Ext.refl _)
  | some ad =>
    refine wpList_append_arg w hgd s x t ho e E.i E.z n bytes E.ht E.hi E.hz E.hsize E.hby E.hzs E.hpos g 0 0 0 [] hs (by simp) (by simp) ad src.length cap (src.flatMap f) hx (flatMap_len hf src) ?_ ?_ ?_ (by simpa using hm) (by simpa using hl) ?_ ?_
    · intro j u hu
      have hjl : j < src.length * n := by rw [← flatMap_len hf src]; exact (List.getElem?_eq_some_iff.1 hu).1
      have hk : j / n < src.length := by rw [Nat.div_lt_iff_lt_mul E.hpos]; exact hjl
      have hr := Nat.mod_lt j E.hpos
      obtain ⟨b, off, cs, hb, hcell, rfl⟩ := hel (j / n) hk
      cases hb
      have hfm := flatMap_at hf src (j / n) hk (j % n) hr
      have hdm : j / n * n + j % n = j := by rw [Nat.mul_comm]; exact Nat.div_add_mod j n
      rw [hdm, hu] at hfm
      have := hcell (j % n) u hfm.symm
      have hadd : (⟨b, off, none⟩ : Addr).add j = ⟨b, off + j, none⟩ := by unfold Addr.add; split <;> simp_all
      rw [hadd]
      rw [← this]
      show _ = w.cell? ⟨b, off + j / n * n + j % n, none⟩
      rw [Nat.add_assoc, hdm]
    · intro u hu
      obtain ⟨b, _, hb⟩ := List.mem_flatMap.1 hu
      exact h1 b u hb
    · intro hr j hj
      rw [flatMap_len hf] at hj
      have : src.length = 0 := by omega
      rw [this] at hj; omega
    · intro hr
      have h0 : src = [] := List.eq_nil_of_length_eq_zero (by omega)
      subst h0
      exact h _ w hown (Ext.refl _)
    · intro hr v' w' o' g'
      refine h v' w' ?_ (Ext.grownNone (Ext.refl _) g')
      have o2 : OwnF f n w.heap.size e w' v' src := by
        unfold OwnF
        simpa using o'
      exact o2.mono hbase
end
end
end Go.Proofs.Ytcpfmhgfaliemaa
