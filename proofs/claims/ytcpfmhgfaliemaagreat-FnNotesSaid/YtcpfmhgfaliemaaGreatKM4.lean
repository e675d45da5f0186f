/- What these laws need: FnNotes: Contracts of the functions on integers that the laws of this part reach. Contracts of the functions on parts and paths, program and reference. The data of the struct Revocation (Revc), how a slice of it reads, and the contracts of the laws' helper functions over it. Contracts of the functions on revocations, program and reference, and of the laws over them. The data of the struct Reservation (Resv), how a slice of it reads, and the contracts of the laws' helper functions over it. Contracts of the functions on reservations, program and reference. Contracts of the filters over revocations and reservations, program and reference. Slices of int: how they read, and the contracts of the laws' helper functions over them. Contracts of the functions on steps and on kinds of parts, program and reference, and of the laws over them. Contracts of the arithmetic modulo the prime, program and reference. Contracts of turning parts around, program and reference. Appending one element that holds a slice of its own to a row of the call's own. Marking and holding parts and paths: the contracts of the laws' helper functions. Slices of uint8: how they read, and the contracts of the laws' helper functions over them. The data of packets, how they read, what they own, and the contracts of the laws' helper functions over them. -/
import Derived.Deep.DeepCutAuto
import Derived.Deep.LoopGhost
import Derived.IntWalk
import Derived.Test.YtcpfmhgfaliemaaGreatKM3
namespace Go.Proofs.YtcpfmhgfaliemaaGreat
section
open Go.ChangeShapes Go.WideShapes Go.ChangeAt Go.RowKit Go.Deep
def inR (n a b : Int) : Bool := decide (a ≤ n) && decide (n ≤ b)
theorem inR_true {n a b : Int} : inR n a b = true ↔ a ≤ n ∧ n ≤ b := by simp [inR]
theorem inR_false {n a b : Int} : inR n a b = false ↔ ¬ (a ≤ n ∧ n ≤ b) := by rw [← inR_true]; simp
set_option maxHeartbeats 400000 in
theorem i_InRange (n a b : Int) (w : World) :
  Calls Tryz.prog 102 #[.int .i64 n, .int .i64 a, .int .i64 b] w fun e w' => e = .returned (.bool (inR n a b)) ∧ w = w' := by
 go_enter Tryz.func102, Tryz.ntmps102
 go_wp2
 all_goals
  go_ret
  refine ⟨ret_bool ?_, rfl⟩
  simp [inR, *]
  try omega
set_option maxHeartbeats 400000 in
theorem s_l1In (n a b : Int) (w : World) :
  Calls Tryz.prog 103 #[.int .i64 n, .int .i64 a, .int .i64 b] w fun e w' => e = .returned (.bool (inR n a b)) ∧ w = w' := by
 go_enter Tryz.func103, Tryz.ntmps103
 go_wp2
 all_goals
  go_ret
  refine ⟨ret_bool ?_, rfl⟩
  simp [inR, *]
  try omega
set_option maxHeartbeats 400000 in
theorem i_Max (a b : Int) (w : World) :
  Calls Tryz.prog 95 #[.int .i64 a, .int .i64 b] w fun e w' => e = .returned (.int .i64 (max a b)) ∧ w = w' := by
 go_enter Tryz.func95, Tryz.ntmps95
 go_wp2
 all_goals
  go_ret
  refine ⟨ret_int ?_, rfl⟩; omega
set_option maxHeartbeats 400000 in
theorem s_Max (a b : Int) (w : World) :
  Calls Tryz.prog 96 #[.int .i64 a, .int .i64 b] w fun e w' => e = .returned (.int .i64 (max a b)) ∧ w = w' := by
 go_enter Tryz.func96, Tryz.ntmps96
 go_wp2
 all_goals
  go_ret
  refine ⟨ret_int ?_, rfl⟩; omega
end
section
open Go.ChangeShapes Go.WideShapes Go.ChangeAt Go.RowKit Go.Deep
theorem elemStp : Nonempty (Elem Tryz.prog 92 86 3 24) := Elem.mk' Tryz.underlying92 Tryz.infoStep rfl (by decide)
set_option maxHeartbeats 400000 in
theorem i_IsReversed (k : Int) (w : World) :
  Calls Tryz.prog 123 #[.int .i64 k] w fun e w' => e = .returned (.bool (isRev k)) ∧ w = w' := by
 go_enter Tryz.func123, Tryz.ntmps123
 go_wp2
 all_goals
  go_ret
  refine ⟨ret_bool ?_, rfl⟩
  simp [isRev, *]
set_option maxHeartbeats 400000 in
theorem s_IsReversed (k : Int) (w : World) :
  Calls Tryz.prog 184 #[.int .i64 k] w fun e w' => e = .returned (.bool (isRev k)) ∧ w = w' := by
 go_enter Tryz.func184, Tryz.ntmps184
 go_wp2
 all_goals
  go_ret
  refine ⟨ret_bool ?_, rfl⟩
  simp [isRev, *]
set_option maxHeartbeats 1000000 in
theorem i_PartIngress (x : Part) (v : Value) (i : Int) (w : World) (r : RdS Hop.rep w v x.hops) :
  Calls Tryz.prog 157 #[.agg #[.int .i64 x.kind, .int .i64 x.ts, .int .i64 x.beta, v], .int .i64 i] w fun e w' => e = .returned (.int .i64 (partIn x i)) ∧ Ext w w' := by
 obtain ⟨o, cap, rfl, hsm⟩ := r.shape; have hx0 : Ext w (w.alloc (.cells #[.int .i64 x.kind, .int .i64 x.ts, .int .i64 x.beta, .slice o x.hops.length cap] 74)) := (Ext.refl _).alloc _
 go_enter Tryz.func157, Tryz.ntmps157
 go_wp2_with fail
 refine (i_InRange _ _ _ _).mono ?_; rintro e w1 ⟨rfl, rfl⟩
 cases hin : inR i 0 (x.hops.length - 1)
 ·
  have he : partIn x i = 0 := by unfold partIn; rw [if_neg (inR_false.1 hin)]
  have HE := Lib.hid he; clear he
  go_wp2_with fail
  go_ret
  exact ⟨ret_int HE.out.symm, hx0⟩
 ·
  obtain ⟨h1, h2⟩ := inR_true.1 hin; obtain ⟨k, rfl⟩ := Int.eq_ofNat_of_zero_le h1; have hk : k < x.hops.length := by omega
  have he := partIn_at hk; have HE := Lib.hid he; clear he; obtain ⟨b, off, rfl, hc⟩ := Hop.at (r.ext hx0) k hk
  go_wp2_with fail
  refine (i_IsReversed _ _).mono ?_; rintro e w1 ⟨rfl, rfl⟩
  cases hrv : isRev x.kind
  ·
   have hh : hopIn x.kind x.hops[k] = x.hops[k].ing := by simp [hopIn, hrv]
   have HH := Lib.hid (HE.out.trans hh); clear hh
   go_wp2_with fail
   go_ret
   exact ⟨ret_int HH.out.symm, hx0⟩
  ·
   have hh : hopIn x.kind x.hops[k] = x.hops[k].eg := by simp [hopIn, hrv]
   have HH := Lib.hid (HE.out.trans hh); clear hh
   go_wp2_with fail
   go_ret
   exact ⟨ret_int HH.out.symm, hx0⟩
set_option maxHeartbeats 1000000 in
theorem i_PartEgress (x : Part) (v : Value) (i : Int) (w : World) (r : RdS Hop.rep w v x.hops) :
  Calls Tryz.prog 156 #[.agg #[.int .i64 x.kind, .int .i64 x.ts, .int .i64 x.beta, v], .int .i64 i] w fun e w' => e = .returned (.int .i64 (partEg x i)) ∧ Ext w w' := by
 obtain ⟨o, cap, rfl, hsm⟩ := r.shape; have hx0 : Ext w (w.alloc (.cells #[.int .i64 x.kind, .int .i64 x.ts, .int .i64 x.beta, .slice o x.hops.length cap] 74)) := (Ext.refl _).alloc _
 go_enter Tryz.func156, Tryz.ntmps156
 go_wp2_with fail
 refine (i_InRange _ _ _ _).mono ?_; rintro e w1 ⟨rfl, rfl⟩
 cases hin : inR i 0 (x.hops.length - 1)
 ·
  have he : partEg x i = 0 := by unfold partEg; rw [if_neg (inR_false.1 hin)]
  have HE := Lib.hid he; clear he
  go_wp2_with fail
  go_ret
  exact ⟨ret_int HE.out.symm, hx0⟩
 ·
  obtain ⟨h1, h2⟩ := inR_true.1 hin; obtain ⟨k, rfl⟩ := Int.eq_ofNat_of_zero_le h1; have hk : k < x.hops.length := by omega
  have he := partEg_at hk; have HE := Lib.hid he; clear he; obtain ⟨b, off, rfl, hc⟩ := Hop.at (r.ext hx0) k hk
  go_wp2_with fail
  refine (i_IsReversed _ _).mono ?_; rintro e w1 ⟨rfl, rfl⟩
  cases hrv : isRev x.kind
  ·
   have hh : hopEg x.kind x.hops[k] = x.hops[k].eg := by simp [hopEg, hrv]
   have HH := Lib.hid (HE.out.trans hh); clear hh
   go_wp2_with fail
   go_ret
   exact ⟨ret_int HH.out.symm, hx0⟩
  ·
   have hh : hopEg x.kind x.hops[k] = x.hops[k].ing := by simp [hopEg, hrv]
   have HH := Lib.hid (HE.out.trans hh); clear hh
   go_wp2_with fail
   go_ret
   exact ⟨ret_int HH.out.symm, hx0⟩
set_option maxHeartbeats 1000000 in
theorem s_PartIngress (x : Part) (v : Value) (i : Int) (w : World) (r : RdS Hop.rep w v x.hops) :
  Calls Tryz.prog 112 #[.agg #[.int .i64 x.kind, .int .i64 x.ts, .int .i64 x.beta, v], .int .i64 i] w fun e w' => e = .returned (.int .i64 (partIn x i)) ∧ Ext w w' := by
 obtain ⟨o, cap, rfl, hsm⟩ := r.shape; have hx0 : Ext w (w.alloc (.cells #[.int .i64 x.kind, .int .i64 x.ts, .int .i64 x.beta, .slice o x.hops.length cap] 74)) := (Ext.refl _).alloc _
 go_enter Tryz.func112, Tryz.ntmps112
 go_wp2_with fail
 refine (s_l1In _ _ _ _).mono ?_; rintro e w1 ⟨rfl, rfl⟩
 cases hin : inR i 0 (x.hops.length - 1)
 ·
  have he : partIn x i = 0 := by unfold partIn; rw [if_neg (inR_false.1 hin)]
  have HE := Lib.hid he; clear he
  go_wp2_with fail
  go_ret
  exact ⟨ret_int HE.out.symm, hx0⟩
 ·
  obtain ⟨h1, h2⟩ := inR_true.1 hin; obtain ⟨k, rfl⟩ := Int.eq_ofNat_of_zero_le h1; have hk : k < x.hops.length := by omega
  have he := partIn_at hk; have HE := Lib.hid he; clear he; obtain ⟨b, off, rfl, hc⟩ := Hop.at (r.ext hx0) k hk
  go_wp2_with fail
  refine (s_IsReversed _ _).mono ?_; rintro e w1 ⟨rfl, rfl⟩
  cases hrv : isRev x.kind
  ·
   have hh : hopIn x.kind x.hops[k] = x.hops[k].ing := by simp [hopIn, hrv]
   have HH := Lib.hid (HE.out.trans hh); clear hh
   go_wp2_with fail
   go_ret
   exact ⟨ret_int HH.out.symm, hx0⟩
  ·
   have hh : hopIn x.kind x.hops[k] = x.hops[k].eg := by simp [hopIn, hrv]
   have HH := Lib.hid (HE.out.trans hh); clear hh
   go_wp2_with fail
   go_ret
   exact ⟨ret_int HH.out.symm, hx0⟩
set_option maxHeartbeats 1000000 in
theorem s_PartEgress (x : Part) (v : Value) (i : Int) (w : World) (r : RdS Hop.rep w v x.hops) :
  Calls Tryz.prog 116 #[.agg #[.int .i64 x.kind, .int .i64 x.ts, .int .i64 x.beta, v], .int .i64 i] w fun e w' => e = .returned (.int .i64 (partEg x i)) ∧ Ext w w' := by
 obtain ⟨o, cap, rfl, hsm⟩ := r.shape; have hx0 : Ext w (w.alloc (.cells #[.int .i64 x.kind, .int .i64 x.ts, .int .i64 x.beta, .slice o x.hops.length cap] 74)) := (Ext.refl _).alloc _
 go_enter Tryz.func116, Tryz.ntmps116
 go_wp2_with fail
 refine (s_l1In _ _ _ _).mono ?_; rintro e w1 ⟨rfl, rfl⟩
 cases hin : inR i 0 (x.hops.length - 1)
 ·
  have he : partEg x i = 0 := by unfold partEg; rw [if_neg (inR_false.1 hin)]
  have HE := Lib.hid he; clear he
  go_wp2_with fail
  go_ret
  exact ⟨ret_int HE.out.symm, hx0⟩
 ·
  obtain ⟨h1, h2⟩ := inR_true.1 hin; obtain ⟨k, rfl⟩ := Int.eq_ofNat_of_zero_le h1; have hk : k < x.hops.length := by omega
  have he := partEg_at hk; have HE := Lib.hid he; clear he; obtain ⟨b, off, rfl, hc⟩ := Hop.at (r.ext hx0) k hk
  go_wp2_with fail
  refine (s_IsReversed _ _).mono ?_; rintro e w1 ⟨rfl, rfl⟩
  cases hrv : isRev x.kind
  ·
   have hh : hopEg x.kind x.hops[k] = x.hops[k].eg := by simp [hopEg, hrv]
   have HH := Lib.hid (HE.out.trans hh); clear hh
   go_wp2_with fail
   go_ret
   exact ⟨ret_int HH.out.symm, hx0⟩
  ·
   have hh : hopEg x.kind x.hops[k] = x.hops[k].ing := by simp [hopEg, hrv]
   have HH := Lib.hid (HE.out.trans hh); clear hh
   go_wp2_with fail
   go_ret
   exact ⟨ret_int HH.out.symm, hx0⟩
end
section
open Go.ChangeShapes Go.WideShapes Go.ChangeAt Go.RowKit Go.Deep
structure Revc where
  asn : Int
  iface : Int
  till : Int
  deriving DecidableEq
def Revc.f (x : Revc) : List Value := [.int .i64 x.asn, .int .i64 x.iface, .int .i64 x.till]
theorem Revc.flen (x : Revc) : x.f.length = 3 := rfl
def Revc.rep : Rep Revc := Rep.flat 3 Revc.f Revc.flen
theorem Revc.one (x : Revc) : ∀ u ∈ x.f, u.oneCell' = true := by
 intro u hu; simp only [Revc.f, List.mem_cons, List.not_mem_nil, or_false] at hu
 rcases hu with rfl | rfl | rfl <;> rfl
theorem Revc.at {w : World} {o : Option Addr} {m cap : Nat} {l : List Revc} (h : RdS Revc.rep w (.slice o m cap) l) (k : Nat) (hk : k < l.length) :
  ∃ b off, o = some ⟨b, off, none⟩ ∧ w.cell? ⟨b, off + k * 3, none⟩ = some (.int .i64 l[k].asn) ∧ w.cell? ⟨b, off + k * 3 + 1, none⟩ = some (.int .i64 l[k].iface) ∧ w.cell? ⟨b, off + k * 3 + 2, none⟩ = some (.int .i64 l[k].till) := by
 obtain ⟨b, off, ho, hc⟩ := RdS.at_flat h k hk; exact ⟨b, off, ho, by simpa using hc 0 _ rfl, by simpa using hc 1 _ rfl, by simpa using hc 2 _ rfl⟩
theorem Revc.at_ext {w w' : World} {b off k : Nat} {l : List Revc} {hk : k < l.length} (x : Ext w w') (h : w.cell? ⟨b, off + k * 3, none⟩ = some (.int .i64 l[k].asn) ∧ w.cell? ⟨b, off + k * 3 + 1, none⟩ = some (.int .i64 l[k].iface) ∧ w.cell? ⟨b, off + k * 3 + 2, none⟩ = some (.int .i64 l[k].till)) :
  w'.cell? ⟨b, off + k * 3, none⟩ = some (.int .i64 l[k].asn) ∧ w'.cell? ⟨b, off + k * 3 + 1, none⟩ = some (.int .i64 l[k].iface) ∧ w'.cell? ⟨b, off + k * 3 + 2, none⟩ = some (.int .i64 l[k].till) := by
 obtain ⟨h0, h1, h2⟩ := h; exact ⟨x.cell h0, x.cell h1, x.cell h2⟩
theorem Revc.own_at {base : Nat} {e : TypeId} {w : World} {g m cap : Nat} {l : List Revc} (h : OwnF Revc.f 3 base e w (.slice (some ⟨g, 0, none⟩) m cap) l) (k : Nat) (hk : k < l.length) :
  w.cell? ⟨g, k * 3, none⟩ = some (.int .i64 l[k].asn) ∧ w.cell? ⟨g, k * 3 + 1, none⟩ = some (.int .i64 l[k].iface) ∧ w.cell? ⟨g, k * 3 + 2, none⟩ = some (.int .i64 l[k].till) := by
 have hc := OwnF.cells_flat Revc.flen h k hk; exact ⟨by simpa using hc 0 _ rfl, by simpa using hc 1 _ rfl, by simpa using hc 2 _ rfl⟩
theorem Tryz.infoRevc : (Tryz.prog.info? 30).map (fun i => (i.zero, i.size, i.bytes)) = some (some (.agg #[.int .i64 0, .int .i64 0, .int .i64 0]), 3, 24) := by kernel_rfl
theorem Revc.sets {l : List Revc} {k : Nat} (hk : k < l.length) (x : Revc) : ((((l.flatMap Revc.f).set (k * 3) (.int .i64 x.asn)).set (k * 3 + 1) (.int .i64 x.iface)).set (k * 3 + 2) (.int .i64 x.till)) = (l.set k x).flatMap Revc.f := by
 induction l generalizing k with
 | nil => simp at hk
 | cons a l ih =>
  cases k with
  | zero => rfl
  | succ k =>
   have := ih (k := k) (by simpa using hk); simp only [List.flatMap_cons, List.set_cons_succ, ← this, Revc.f]; rw [show (k + 1) * 3 = k * 3 + 1 + 1 + 1 from by omega]; rfl
theorem Revc.own_set {base : Nat} {e : TypeId} {w : World} {g m cap : Nat} {l : List Revc} (h : OwnF Revc.f 3 base e w (.slice (some ⟨g, 0, none⟩) m cap) l) (k : Nat) (hk : k < l.length) (x : Revc) :
  OwnF Revc.f 3 base e (((w.setCell ⟨g, k * 3, none⟩ (.int .i64 x.asn)).setCell ⟨g, k * 3 + 1, none⟩ (.int .i64 x.iface)).setCell ⟨g, k * 3 + 2, none⟩ (.int .i64 x.till)) (.slice (some ⟨g, 0, none⟩) m cap) (l.set k x) ∧
   w.grownBy (((w.setCell ⟨g, k * 3, none⟩ (.int .i64 x.asn)).setCell ⟨g, k * 3 + 1, none⟩ (.int .i64 x.iface)).setCell ⟨g, k * 3 + 2, none⟩ (.int .i64 x.till)) (some g) := by
 obtain rfl := h.len; obtain ⟨h0, g0⟩ := World.ownsRow.stored h (k * 3) (.int .i64 x.asn); obtain ⟨h1, g1⟩ := World.ownsRow.stored h0 (k * 3 + 1) (.int .i64 x.iface); obtain ⟨h2, g2⟩ := World.ownsRow.stored h1 (k * 3 + 2) (.int .i64 x.till); rw [Revc.sets hk] at h2; refine ⟨?_, ((g0.trans g1).trans g2)⟩; unfold OwnF; rw [List.length_set]; exact h2
theorem Revc.ext' {x y : Revc} (h0 : x.asn = y.asn) (h1 : x.iface = y.iface) (h2 : x.till = y.till) : x = y := by
 cases x; cases y; simp_all
theorem Revc.eq_iff (x y : Revc) : (decide (x = y) : Bool) = (!(x.asn != y.asn) && !(x.iface != y.iface) && !(x.till != y.till)) := by
 cases x; cases y; simp only [nbne, Revc.mk.injEq, Bool.decide_and, Bool.and_assoc]
def Revc.mk' (k : Int) : Revc := ⟨k, k + 1, k + 1 + 1⟩
def Revc.ok (x : Revc) : Prop := I64 x.asn ∧ I64 x.iface ∧ I64 x.till
end
section
open Go.ChangeShapes Go.WideShapes Go.ChangeAt Go.RowKit Go.Deep
def validRev (x : Revc) : Bool := inR x.asn 0 7 && inR x.iface 1 6 && inR x.till 0 1000000
set_option maxHeartbeats 400000 in
theorem i_ValidRevocation (x : Revc) (w : World) :
  Calls Tryz.prog 29 #[.agg #[.int .i64 x.asn, .int .i64 x.iface, .int .i64 x.till]] w fun e w' => e = .returned (.bool (validRev x)) ∧ Ext w w' := by
 go_enter Tryz.func29, Tryz.ntmps29
 go_wp2_with (go_at_call 102; refine (i_InRange _ _ _ _).mono ?_; rintro e w' ⟨rfl, rfl⟩)
 all_goals
  go_ret
  refine ⟨ret_bool ?_, (Ext.refl _).alloc _⟩
  simp [validRev, *]
set_option maxHeartbeats 400000 in
theorem s_ValidRevocation (x : Revc) (w : World) :
  Calls Tryz.prog 30 #[.agg #[.int .i64 x.asn, .int .i64 x.iface, .int .i64 x.till]] w fun e w' => e = .returned (.bool (validRev x)) ∧ Ext w w' := by
 go_enter Tryz.func30, Tryz.ntmps30
 go_wp2_with (go_at_call 103; refine (s_l1In _ _ _ _).mono ?_; rintro e w' ⟨rfl, rfl⟩)
 all_goals
  go_ret
  refine ⟨ret_bool ?_, (Ext.refl _).alloc _⟩
  simp [validRev, *]
end
section
open Go.ChangeShapes Go.WideShapes Go.ChangeAt Go.RowKit Go.Deep
structure Resv where
  id : Int
  asn : Int
  iface : Int
  rate : Int
  till : Int
  deriving DecidableEq
def Resv.f (x : Resv) : List Value := [.int .i64 x.id, .int .i64 x.asn, .int .i64 x.iface, .int .i64 x.rate, .int .i64 x.till]
theorem Resv.flen (x : Resv) : x.f.length = 5 := rfl
def Resv.rep : Rep Resv := Rep.flat 5 Resv.f Resv.flen
theorem Resv.one (x : Resv) : ∀ u ∈ x.f, u.oneCell' = true := by
 intro u hu; simp only [Resv.f, List.mem_cons, List.not_mem_nil, or_false] at hu
 rcases hu with rfl | rfl | rfl | rfl | rfl <;> rfl
theorem Resv.at {w : World} {o : Option Addr} {m cap : Nat} {l : List Resv} (h : RdS Resv.rep w (.slice o m cap) l) (k : Nat) (hk : k < l.length) :
  ∃ b off, o = some ⟨b, off, none⟩ ∧ w.cell? ⟨b, off + k * 5, none⟩ = some (.int .i64 l[k].id) ∧ w.cell? ⟨b, off + k * 5 + 1, none⟩ = some (.int .i64 l[k].asn) ∧ w.cell? ⟨b, off + k * 5 + 2, none⟩ = some (.int .i64 l[k].iface) ∧ w.cell? ⟨b, off + k * 5 + 3, none⟩ = some (.int .i64 l[k].rate) ∧ w.cell? ⟨b, off + k * 5 + 4, none⟩ = some (.int .i64 l[k].till) := by
 obtain ⟨b, off, ho, hc⟩ := RdS.at_flat h k hk; exact ⟨b, off, ho, by simpa using hc 0 _ rfl, by simpa using hc 1 _ rfl, by simpa using hc 2 _ rfl, by simpa using hc 3 _ rfl, by simpa using hc 4 _ rfl⟩
theorem Resv.at_ext {w w' : World} {b off k : Nat} {l : List Resv} {hk : k < l.length} (x : Ext w w') (h : w.cell? ⟨b, off + k * 5, none⟩ = some (.int .i64 l[k].id) ∧ w.cell? ⟨b, off + k * 5 + 1, none⟩ = some (.int .i64 l[k].asn) ∧ w.cell? ⟨b, off + k * 5 + 2, none⟩ = some (.int .i64 l[k].iface) ∧ w.cell? ⟨b, off + k * 5 + 3, none⟩ = some (.int .i64 l[k].rate) ∧ w.cell? ⟨b, off + k * 5 + 4, none⟩ = some (.int .i64 l[k].till)) :
  w'.cell? ⟨b, off + k * 5, none⟩ = some (.int .i64 l[k].id) ∧ w'.cell? ⟨b, off + k * 5 + 1, none⟩ = some (.int .i64 l[k].asn) ∧ w'.cell? ⟨b, off + k * 5 + 2, none⟩ = some (.int .i64 l[k].iface) ∧ w'.cell? ⟨b, off + k * 5 + 3, none⟩ = some (.int .i64 l[k].rate) ∧ w'.cell? ⟨b, off + k * 5 + 4, none⟩ = some (.int .i64 l[k].till) := by
 obtain ⟨h0, h1, h2, h3, h4⟩ := h; exact ⟨x.cell h0, x.cell h1, x.cell h2, x.cell h3, x.cell h4⟩
theorem Resv.own_at {base : Nat} {e : TypeId} {w : World} {g m cap : Nat} {l : List Resv} (h : OwnF Resv.f 5 base e w (.slice (some ⟨g, 0, none⟩) m cap) l) (k : Nat) (hk : k < l.length) :
  w.cell? ⟨g, k * 5, none⟩ = some (.int .i64 l[k].id) ∧ w.cell? ⟨g, k * 5 + 1, none⟩ = some (.int .i64 l[k].asn) ∧ w.cell? ⟨g, k * 5 + 2, none⟩ = some (.int .i64 l[k].iface) ∧ w.cell? ⟨g, k * 5 + 3, none⟩ = some (.int .i64 l[k].rate) ∧ w.cell? ⟨g, k * 5 + 4, none⟩ = some (.int .i64 l[k].till) := by
 have hc := OwnF.cells_flat Resv.flen h k hk; exact ⟨by simpa using hc 0 _ rfl, by simpa using hc 1 _ rfl, by simpa using hc 2 _ rfl, by simpa using hc 3 _ rfl, by simpa using hc 4 _ rfl⟩
theorem Resv.sets {l : List Resv} {k : Nat} (hk : k < l.length) (x : Resv) : ((((((l.flatMap Resv.f).set (k * 5) (.int .i64 x.id)).set (k * 5 + 1) (.int .i64 x.asn)).set (k * 5 + 2) (.int .i64 x.iface)).set (k * 5 + 3) (.int .i64 x.rate)).set (k * 5 + 4) (.int .i64 x.till)) = (l.set k x).flatMap Resv.f := by
 induction l generalizing k with
 | nil => simp at hk
 | cons a l ih =>
  cases k with
  | zero => rfl
  | succ k =>
   have := ih (k := k) (by simpa using hk); simp only [List.flatMap_cons, List.set_cons_succ, ← this, Resv.f]; rw [show (k + 1) * 5 = k * 5 + 1 + 1 + 1 + 1 + 1 from by omega]; rfl
theorem Resv.own_set {base : Nat} {e : TypeId} {w : World} {g m cap : Nat} {l : List Resv} (h : OwnF Resv.f 5 base e w (.slice (some ⟨g, 0, none⟩) m cap) l) (k : Nat) (hk : k < l.length) (x : Resv) :
  OwnF Resv.f 5 base e (((((w.setCell ⟨g, k * 5, none⟩ (.int .i64 x.id)).setCell ⟨g, k * 5 + 1, none⟩ (.int .i64 x.asn)).setCell ⟨g, k * 5 + 2, none⟩ (.int .i64 x.iface)).setCell ⟨g, k * 5 + 3, none⟩ (.int .i64 x.rate)).setCell ⟨g, k * 5 + 4, none⟩ (.int .i64 x.till)) (.slice (some ⟨g, 0, none⟩) m cap) (l.set k x) ∧
   w.grownBy (((((w.setCell ⟨g, k * 5, none⟩ (.int .i64 x.id)).setCell ⟨g, k * 5 + 1, none⟩ (.int .i64 x.asn)).setCell ⟨g, k * 5 + 2, none⟩ (.int .i64 x.iface)).setCell ⟨g, k * 5 + 3, none⟩ (.int .i64 x.rate)).setCell ⟨g, k * 5 + 4, none⟩ (.int .i64 x.till)) (some g) := by
 obtain rfl := h.len; obtain ⟨h0, g0⟩ := World.ownsRow.stored h (k * 5) (.int .i64 x.id); obtain ⟨h1, g1⟩ := World.ownsRow.stored h0 (k * 5 + 1) (.int .i64 x.asn); obtain ⟨h2, g2⟩ := World.ownsRow.stored h1 (k * 5 + 2) (.int .i64 x.iface); obtain ⟨h3, g3⟩ := World.ownsRow.stored h2 (k * 5 + 3) (.int .i64 x.rate); obtain ⟨h4, g4⟩ := World.ownsRow.stored h3 (k * 5 + 4) (.int .i64 x.till); rw [Resv.sets hk] at h4; refine ⟨?_, ((((g0.trans g1).trans g2).trans g3).trans g4)⟩; unfold OwnF; rw [List.length_set]; exact h4
theorem Resv.ext' {x y : Resv} (h0 : x.id = y.id) (h1 : x.asn = y.asn) (h2 : x.iface = y.iface) (h3 : x.rate = y.rate) (h4 : x.till = y.till) : x = y := by
 cases x; cases y; simp_all
theorem Resv.eq_iff (x y : Resv) : (decide (x = y) : Bool) = (!(x.id != y.id) && !(x.asn != y.asn) && !(x.iface != y.iface) && !(x.rate != y.rate) && !(x.till != y.till)) := by
 cases x; cases y; simp only [nbne, Resv.mk.injEq, Bool.decide_and, Bool.and_assoc]
def Resv.mk' (k : Int) : Resv := ⟨k, k + 1, k + 1 + 1, k + 1 + 1 + 1, k + 1 + 1 + 1 + 1⟩
def Resv.ok (x : Resv) : Prop := I64 x.id ∧ I64 x.asn ∧ I64 x.iface ∧ I64 x.rate ∧ I64 x.till
end
section
open Go.ChangeShapes Go.WideShapes Go.ChangeAt Go.RowKit Go.Deep
def resvAt (r : Resv) (a i : Int) : Bool := (r.asn == a) && (r.iface == i)
def resvAtNow (r : Resv) (a i now : Int) : Bool := resvAt r a i && decide (now ≤ r.till)
def validResv (x : Resv) : Bool := inR x.id 1 100000 && inR x.rate 1 20 && validRev ⟨x.asn, x.iface, x.till⟩
def sumRate (a i now : Int) : List Resv → Int → Int
  | [], n => n
  | r :: l, n => sumRate a i now l (if resvAtNow r a i now then wrap64 (n + r.rate) else n)
def resvdRate (l : List Resv) (a i now : Int) : Int := sumRate a i now l 0
end
section
open Go.ChangeShapes Go.WideShapes Go.ChangeAt Go.RowKit Go.Deep
theorem elemRevc : Nonempty (Elem Tryz.prog 24 30 3 24) := Elem.mk' Tryz.underlying24 Tryz.infoRevc rfl (by decide)
def activeRevs (now : Int) (l : List Revc) : List Revc := l.filter fun x => decide (now ≤ x.till)
set_option maxHeartbeats 1000000 in
theorem i_ActiveRevocations (l : List Revc) (v : Value) (now : Int) (w : World) (hv : RdS Revc.rep w v l) (hl : l.length ≤ 1048576) :
  Calls Tryz.prog 31 #[v, .int .i64 now] w fun e w' => ∃ v', e = .returned v' ∧ OwnF Revc.f 3 w.heap.size 30 w' v' ((activeRevs now) l) ∧ Ext w w' := by
 obtain ⟨o, cap, rfl, hsm⟩ := hv.shape; obtain ⟨E⟩ := elemRevc
 go_enter Tryz.func31, Tryz.ntmps31
 go_wp2
 go_loopw [5, 10] (fun out i wr => ∃ (k : Nat), k ≤ l.length ∧ i = .int .i64 k ∧ OwnF Revc.f 3 w.heap.size 30 wr out ((activeRevs now) (l.take k)) ∧ Ext w wr) (fun _ i _ => l.length - (intOf i).toNat)
 case atStart => exact ⟨0, Nat.zero_le _, rfl, OwnF.nil _ _ _ _ _, Ext.refl _⟩
 case round =>
  obtain ⟨k, hk, rfl, hown, hx⟩ := hrel
  by_cases hlt : k < l.length
  ·
   obtain ⟨b, off, rfl, hc⟩ := Revc.at (hv.ext hx) k hlt; have hln : ((activeRevs now) (l.take k)).length ≤ k := Nat.le_trans (List.length_filter_le _ _) (List.length_take_le _ _)
   by_cases ht : decide (now ≤ l[k].till) = true
   ·
    have hnext : (activeRevs now) (l.take k) ++ [l[k]] = (activeRevs now) (l.take (k + 1)) := filter_pos (α := Revc) (fun x : Revc => decide (now ≤ x.till)) hlt ht; have HN := Lib.hid hnext; clear hnext; have ht2 : now ≤ l[k].till := by simpa using ht
    go_wp2_with (at_builtin; refine app1 E Revc.flen Revc.one rfl _ _ rfl l[k] rfl (OwnF.ext hown (((Ext.refl _).alloc _).alloc _)) rfl (by exact blk_list l[k].f (blk_new2 wr _ _)) (by omega) (by unfold maxLen; omega) (by exact ((hx.alloc _).alloc _).size) ?_)
    intro v' w' ho' hg'; have hx' : Ext w w' := ((hx.alloc _).alloc _).app hg' hown (Nat.le_refl _); rw [HN.out] at ho'; clear hg'
    go_wp2
    go_roundw
    case rel => exact ⟨k + 1, by omega, by go_num, ho', hx'⟩
    case measure => simp [intOf]; omega
   ·
    have hnext : (activeRevs now) (l.take k) = (activeRevs now) (l.take (k + 1)) := filter_neg (α := Revc) (fun x : Revc => decide (now ≤ x.till)) hlt ht; have HN := Lib.hid hnext; clear hnext; have ht2 : l[k].till < now := by simp at ht; omega
    rw [HN.out] at hown
    go_wp2_with fail
    go_roundw
    case rel => exact ⟨k + 1, by omega, by go_num, hown.ext ((Ext.refl _).alloc _), hx.alloc _⟩
    case measure => simp [intOf]; omega
  ·
   go_wp2
   go_ret
   rw [List.take_of_length_le (by omega)] at hown; exact ⟨_, rfl, hown, hx⟩
set_option maxHeartbeats 1000000 in
theorem s_ActiveRevocations (l : List Revc) (v : Value) (now : Int) (w : World) (hv : RdS Revc.rep w v l) (hl : l.length ≤ 1048576) :
  Calls Tryz.prog 32 #[v, .int .i64 now] w fun e w' => ∃ v', e = .returned v' ∧ OwnF Revc.f 3 w.heap.size 30 w' v' ((activeRevs now) l) ∧ Ext w w' := by
 obtain ⟨o, cap, rfl, hsm⟩ := hv.shape; obtain ⟨E⟩ := elemRevc
 go_enter Tryz.func32, Tryz.ntmps32
 go_wp2
 go_loopw [5, 6] (fun out i wr => ∃ (k : Nat), k ≤ l.length ∧ i = .int .i64 k ∧ OwnF Revc.f 3 w.heap.size 30 wr out ((activeRevs now) (l.take k)) ∧ Ext w wr) (fun _ i _ => l.length - (intOf i).toNat)
 case atStart => exact ⟨0, Nat.zero_le _, rfl, OwnF.empty _ _ _ _ _ (Nat.le_refl _), (Ext.refl _).alloc _⟩
 case round =>
  obtain ⟨k, hk, rfl, hown, hx⟩ := hrel
  by_cases hlt : k < l.length
  ·
   obtain ⟨b, off, rfl, hc⟩ := Revc.at (hv.ext hx) k hlt; have hln : ((activeRevs now) (l.take k)).length ≤ k := Nat.le_trans (List.length_filter_le _ _) (List.length_take_le _ _)
   by_cases ht : decide (now ≤ l[k].till) = true
   ·
    have hnext : (activeRevs now) (l.take k) ++ [l[k]] = (activeRevs now) (l.take (k + 1)) := filter_pos (α := Revc) (fun x : Revc => decide (now ≤ x.till)) hlt ht; have HN := Lib.hid hnext; clear hnext; have ht2 : now ≤ l[k].till := by simpa using ht
    go_wp2_with (at_builtin; refine app1 E Revc.flen Revc.one rfl _ _ rfl l[k] rfl (OwnF.ext hown ((Ext.refl _).alloc _)) rfl (by exact blk_list l[k].f (blk_new wr _)) (by omega) (by unfold maxLen; omega) (by exact (hx.alloc _).size) ?_)
    intro v' w' ho' hg'; have hx' : Ext w w' := (hx.alloc _).app hg' hown (Nat.le_refl _); rw [HN.out] at ho'; clear hg'
    go_wp2
    go_roundw
    case rel => exact ⟨k + 1, by omega, by go_num, ho', hx'⟩
    case measure => simp [intOf]; omega
   ·
    have hnext : (activeRevs now) (l.take k) = (activeRevs now) (l.take (k + 1)) := filter_neg (α := Revc) (fun x : Revc => decide (now ≤ x.till)) hlt ht; have HN := Lib.hid hnext; clear hnext; have ht2 : l[k].till < now := by simp at ht; omega
    rw [HN.out] at hown
    go_wp2_with fail
    go_roundw
    case rel => exact ⟨k + 1, by omega, by go_num, hown, hx⟩
    case measure => simp [intOf]; omega
  ·
   go_wp2
   go_ret
   rw [List.take_of_length_le (by omega)] at hown; exact ⟨_, rfl, hown, hx⟩
end
section
open Go.ChangeShapes Go.WideShapes Go.ChangeAt Go.RowKit Go.Deep
def intF (n : Int) : List Value := [.int .i64 n]
theorem intFlen (n : Int) : (intF n).length = 1 := rfl
theorem intOne (n : Int) : ∀ u ∈ intF n, u.oneCell' = true := by
 intro u hu; simp only [intF, List.mem_cons, List.not_mem_nil, or_false] at hu; rw [hu]; rfl
theorem ints_rep {base : Nat} {e : TypeId} {w : World} {v : Value} {l : List Int} (h : OwnF intF 1 base e w v l) : RdS Rep.int w v l := OwnF.rd (hf := intFlen) h
theorem ints_at {w : World} {o : Option Addr} {m cap : Nat} {l : List Int} (h : RdS Rep.int w (.slice o m cap) l) (k : Nat) (hk : k < l.length) :
  ∃ b off, o = some ⟨b, off, none⟩ ∧ w.cell? ⟨b, off + k, none⟩ = some (.int .i64 l[k]) := by
 obtain ⟨b, off, ho, hc⟩ := RdS.at_flat h k hk; exact ⟨b, off, ho, by simpa using hc 0 _ rfl⟩
theorem ints_own_at {base : Nat} {e : TypeId} {w : World} {g m cap : Nat} {l : List Int} (h : OwnF intF 1 base e w (.slice (some ⟨g, 0, none⟩) m cap) l) (k : Nat) (hk : k < l.length) :
  w.cell? ⟨g, k, none⟩ = some (.int .i64 l[k]) := by
 have hc := OwnF.cells_flat intFlen h k hk
 simpa using hc 0 _ rfl
theorem ints_sets {l : List Int} {k : Nat} (x : Int) : (l.flatMap intF).set k (.int .i64 x) = (l.set k x).flatMap intF := by
 induction l generalizing k with
 | nil => simp
 | cons a l ih =>
  cases k with
  | zero => rfl
  | succ k =>
   have := ih (k := k); simp only [List.flatMap_cons, List.set_cons_succ, ← this, intF]; rfl
theorem ints_own_set {base : Nat} {e : TypeId} {w : World} {g m cap : Nat} {l : List Int} (h : OwnF intF 1 base e w (.slice (some ⟨g, 0, none⟩) m cap) l) (k : Nat) (x : Int) :
  OwnF intF 1 base e (w.setCell ⟨g, k, none⟩ (.int .i64 x)) (.slice (some ⟨g, 0, none⟩) m cap) (l.set k x) ∧ w.grownBy (w.setCell ⟨g, k, none⟩ (.int .i64 x)) (some g) := by
 obtain rfl := h.len; obtain ⟨h0, g0⟩ := World.ownsRow.stored h k (.int .i64 x); rw [ints_sets] at h0; refine ⟨?_, g0⟩; unfold OwnF; rw [List.length_set]; exact h0
theorem Tryz.infoInt : (Tryz.prog.info? 3).map (fun i => (i.zero, i.size, i.bytes)) = some (some (.int .i64 0), 1, 8) := by kernel_rfl
theorem elemInt : Nonempty (Elem Tryz.prog 89 3 1 8) := Elem.mk' Tryz.underlying89 Tryz.infoInt rfl (by decide)
theorem opensInts : Opens Tryz.prog 89 Rep.int.slice (fun l => ∀ x ∈ l, I64 x) := opens_slice Tryz.underlying89 (by kernel_rfl) (by decide) (opens_int Tryz.underlying3)
def intMk (k : Int) : Int := k
end
section
open Go.ChangeShapes Go.WideShapes Go.ChangeAt Go.RowKit Go.Deep
def revKind (k : Int) : Int := if k == 1 then 4 else if k == 4 then 1 else if k == 2 then 3 else if k == 3 then 2 else k
end
section
open Go.ChangeShapes Go.WideShapes Go.ChangeAt Go.RowKit Go.Deep
def isRes (n : Int) : Bool := inR n 0 2147483646
def addMod (b s : Int) : Int := if isRes b && isRes s then (b + s) % 2147483647 else 0
def subMod (b s : Int) : Int := if isRes b && isRes s then (b - s + 2147483647) % 2147483647 else 0
theorem isRes_true {n : Int} : isRes n = true ↔ 0 ≤ n ∧ n ≤ 2147483646 := inR_true
theorem addMod_no1 {b s : Int} (h : isRes b = false) : addMod b s = 0 := by simp [addMod, h]
theorem addMod_no2 {b s : Int} (h : isRes s = false) : addMod b s = 0 := by simp [addMod, h]
theorem addMod_yes {b s : Int} (h : isRes b = true) (h2 : isRes s = true) : addMod b s = (b + s) % 2147483647 := by simp [addMod, h, h2]
theorem subMod_yes {b s : Int} (h : isRes b = true) (h2 : isRes s = true) : subMod b s = (b - s + 2147483647) % 2147483647 := by simp [subMod, h, h2]
theorem addMod_res (b s : Int) : isRes (addMod b s) = true := by
 rw [isRes_true]; unfold addMod; split <;> omega
theorem subMod_res (b s : Int) : isRes (subMod b s) = true := by
 rw [isRes_true]; unfold subMod; split <;> omega
set_option maxHeartbeats 400000 in
theorem s_l3Ok (n : Int) (w : World) : Calls Tryz.prog 182 #[.int .i64 n] w fun e w' => e = .returned (.bool (isRes n)) ∧ w = w' := by
 go_enter Tryz.func182, Tryz.ntmps182
 go_wp2_with fail
 refine (s_l1In _ _ _ _).mono ?_; rintro e w1 ⟨rfl, rfl⟩
 go_wp2_with fail
 go_ret
 exact ⟨rfl, rfl⟩
set_option maxHeartbeats 400000 in
theorem s_AddMod (b s : Int) (w : World) : Calls Tryz.prog 228 #[.int .i64 b, .int .i64 s] w fun e w' => e = .returned (.int .i64 (addMod b s)) ∧ w = w' := by
 go_enter Tryz.func228, Tryz.ntmps228
 go_wp2_with fail
 refine (s_l3Ok _ _).mono ?_; rintro e w1 ⟨rfl, rfl⟩
 cases h1 : isRes b
 ·
  have HE := Lib.hid (addMod_no1 (s := s) h1)
  go_wp2_with fail
  go_ret
  exact ⟨ret_int HE.out.symm, rfl⟩
 ·
  go_wp2_with fail
  refine (s_l3Ok _ _).mono ?_; rintro e w1 ⟨rfl, rfl⟩
  cases h2 : isRes s
  ·
   have HE := Lib.hid (addMod_no2 (b := b) h2)
   go_wp2_with fail
   go_ret
   exact ⟨ret_int HE.out.symm, rfl⟩
  ·
   have HE := Lib.hid (addMod_yes h1 h2); obtain ⟨a1, a2⟩ := isRes_true.1 h1; obtain ⟨a3, a4⟩ := isRes_true.1 h2
   go_wp2_with fail
   go_ret
   exact ⟨ret_int HE.out.symm, rfl⟩
end
section
open Go.ChangeShapes Go.WideShapes Go.ChangeAt Go.RowKit Go.Deep
def betaTo (x : Part) : Nat → Int
 | 0 => x.beta
 | k + 1 => match x.hops[k]? with
  | some h => if isRev x.kind then subMod (betaTo x k) h.mac else addMod (betaTo x k) h.mac
  | none => betaTo x k
theorem betaTo_succ {x : Part} {k : Nat} (h : k < x.hops.length) : betaTo x (k + 1) = if isRev x.kind then subMod (betaTo x k) x.hops[k].mac else addMod (betaTo x k) x.hops[k].mac := by simp [betaTo, h]
def betaAfter (x : Part) (i : Int) : Int := if 0 ≤ i ∧ i ≤ x.hops.length then betaTo x i.toNat else 0
def revPart (x : Part) : Part := ⟨revKind x.kind, x.ts, betaAfter x x.hops.length, x.hops.reverse⟩
theorem elemHop : Nonempty (Elem Tryz.prog 72 71 5 40) := Elem.mk' Tryz.underlying72 Tryz.infoHop rfl (by decide)
theorem rev_drop {α : Type} {l : List α} {k : Nat} (hk : k < l.length) : (l.drop (k + 1)).reverse ++ [l[k]] = (l.drop k).reverse := by
 rw [List.drop_eq_getElem_cons hk, List.reverse_cons]
end
section
open Go.ChangeShapes Go.WideShapes Go.ChangeAt Go.RowKit Go.Deep
section
variable {P : Program} {w : World} {ops : Array Oper} {rest : List Oper} {o : Oper} {a : Act} {Q : Exit → Act → World → Prop}
theorem app1p {t e : TypeId} {n bytes : Nat} (E : Elem P t e n bytes) {α : Type} {f : α → List Value} (hf : ∀ a, (f a).length = n) (hgd : o.guard = none) (s x : Operand)
  (ho : o.op = .call { callee := .builtin .append, args := #[s, x], argTypes := #[t, t] }) {base : Nat} {v : Value} {l : List α} (b : α) (h1 : ∀ u ∈ f b, u.oneCell' = true) (hs : a.eval s = v) (hown : OwnF f n base e w v l)
  {g c : Nat} (hx : a.eval x = .slice (some ⟨g, 0, none⟩) 1 c) (hnews : ∀ j u, (f b)[j]? = some u → w.cell? ⟨g, j, none⟩ = some u)
  (hl : (l.length + 1) * bytes ≤ 140737488355328) (hm : l.length + 1 ≤ maxLen) (hbase : base ≤ w.heap.size)
  (h : ∀ v' w', OwnF f n base e w' v' (l ++ [b]) → w.grownBy w' v.ownBlock → (v'.ownBlock = v.ownBlock ∨ v'.ownBlock = some w.heap.size) → wpList P ops Q rest (a.put o.dst v') w') : wpList P ops Q (o :: rest) a w := by
 refine wpList_append_own_at w hgd s x t ho base e E.i E.z n bytes E.ht E.hi E.hz E.hsize E.hby E.hzs E.hpos v l.length (l.flatMap f) hs hown ⟨g, 0, none⟩ 1 c (f b) hx (by rw [hf, Nat.one_mul]) ?_ h1 hm hl hbase ?_
 ·
  intro j u hu; have hadd : (⟨g, 0, none⟩ : Addr).add j = ⟨g, j, none⟩ := by unfold Addr.add; split <;> simp_all
  rw [hadd]; exact hnews j u hu
 ·
  intro v' w' ho' hg _ hat; refine h v' w' ?_ hg hat; unfold OwnF; rw [List.length_append, List.flatMap_append, List.flatMap_cons, List.flatMap_nil, List.append_nil]; exact ho'
variable {α β : Type} {n : Nat} {c : α → Value → List Value} {hc : ∀ a v, (c a v).length = n} {sub : α → List β} {e : TypeId} {I : Own β}
theorem appN {t : TypeId} {bytes lo : Nat} (E : Elem P t e n bytes) (hgd : o.guard = none) (s x : Operand)
  (ho : o.op = .call { callee := .builtin .append, args := #[s, x], argTypes := #[t, t] }) {w0 : World} {v : Value} {l : List α} (b : α) (hv : Value) (T : Nat → Prop)
  (h1 : ∀ u ∈ c b hv, u.oneCell' = true) (hs : a.eval s = v) (hown : (Own.nest n c hc sub e I).own (rng lo w0.heap.size) w0 v l) (hx0 : Ext w0 w) (hi : I.own T w hv (sub b)) (hT : ∀ q, T q → w0.heap.size ≤ q ∧ q < w.heap.size) (hlo : lo ≤ w0.heap.size)
  {g cp : Nat} (hx : a.eval x = .slice (some ⟨g, 0, none⟩) 1 cp) (hnews : ∀ j u, (c b hv)[j]? = some u → w.cell? ⟨g, j, none⟩ = some u)
  (hl : (l.length + 1) * bytes ≤ 140737488355328) (hm : l.length + 1 ≤ maxLen)
  (h : ∀ v' w', (Own.nest n c hc sub e I).own (rng lo w'.heap.size) w' v' (l ++ [b]) → w.grownBy w' v.ownBlock → (∀ q, v.ownBlock = some q → lo ≤ q) → wpList P ops Q rest (a.put o.dst v') w') : wpList P ops Q (o :: rest) a w := by
 obtain ⟨qs, hq, hoq, hS, hqq, hd⟩ := hown; have hlq : qs.length = l.length := by rw [← hq, List.length_map]
 refine app1p E (f := capF c) (fun q : Cap α => hc q.dat q.val) hgd s x ho (⟨b, hv, T⟩ : Cap α) h1 hs (hoq.ext hx0) hx hnews (by rw [hlq]; exact hl) (by rw [hlq]; exact hm) (Nat.zero_le _) ?_; intro v' w' ho' hg hat; refine h v' w' ?_ hg (fun q hq => (hS q hq).1); refine nest_push (S := rng lo w0.heap.size) (T := T) qs b hv hq hS hqq hd (fun k hk => (hS k hk).2) hx0 hi (fun q hTq => ⟨⟨Nat.le_trans hlo (hT q hTq).1, Nat.lt_of_lt_of_le (hT q hTq).2 hg.size⟩, (hT q hTq).1, (hT q hTq).2⟩) (fun q hq => ⟨hq.1, Nat.lt_of_lt_of_le hq.2 (Nat.le_trans hx0.size hg.size)⟩) hg ?_ ho'
 rcases hat with h2 | h2
 ·
  exact .inl h2
 ·
  exact .inr ⟨_, h2, Nat.le_refl _, ⟨Nat.le_trans hlo hx0.size, (ho'.block _ h2).2⟩⟩
end
end
section
open Go.ChangeShapes Go.WideShapes Go.ChangeAt Go.RowKit Go.Deep
section
variable {α β : Type} {n : Nat} {c : α → Value → List Value} {hc : ∀ a v, (c a v).length = n} {sub : α → List β} {e : TypeId} {I : Own β}
theorem nest_row {S : Nat → Prop} {w w2 : World} {g m cap : Nat} {l : List α} (h : (Own.nest n c hc sub e I).own S w (.slice (some ⟨g, 0, none⟩) m cap) l) (k : Nat) (hk : k < l.length) (x : α) (hsub : sub x = sub l[k]) (hg : w.grownBy w2 (some g))
  (hrow : ∀ (qs : List (Cap α)) (_ : qs.map (·.dat) = l) (hk' : k < qs.length), OwnF (capF c) n 0 e w (.slice (some ⟨g, 0, none⟩) m cap) qs → OwnF (capF c) n 0 e w2 (.slice (some ⟨g, 0, none⟩) m cap) (qs.set k ⟨x, qs[k].val, qs[k].set⟩)) :
  (Own.nest n c hc sub e I).own S w2 (.slice (some ⟨g, 0, none⟩) m cap) (l.set k x) := by
 obtain ⟨qs, rfl, ho, hS, hq, hd⟩ := h; have hk' : k < qs.length := by simpa using hk
 have hch : Chg (fun b => b = g) w w2 := Chg.ofGrown hg (fun k hk => by cases hk; rfl); have hne : ∀ b, (Value.slice (some ⟨g, 0, none⟩) m cap).ownBlock ≠ some b → ¬ b = g := fun b h e => h (by rw [e]; rfl)
 refine ⟨qs.set k ⟨x, qs[k].val, qs[k].set⟩, by simp [List.map_set], hrow qs rfl hk' ho, hS, fun q hqm => ?_, fun i j hi hj hne' b hbi => ?_⟩
 ·
  obtain ⟨i, hi, rfl⟩ := List.getElem_of_mem hqm; have hi' : i < qs.length := by simpa using hi
  rw [List.getElem_set]
  by_cases hki : k = i
  ·
   subst hki; simp only [if_pos]; obtain ⟨a1, a2⟩ := hq qs[k] (List.getElem_mem _); refine ⟨?_, fun b hb => ⟨(a2 b hb).1, (a2 b hb).2.1, Nat.lt_of_lt_of_le (a2 b hb).2.2 hch.size⟩⟩; have := I.kept a1 hch (fun b hb => hne b (a2 b hb).2.1); rw [hsub]
   simpa using this
  ·
   rw [if_neg hki]; obtain ⟨a1, a2⟩ := hq qs[i] (List.getElem_mem _); exact ⟨I.kept a1 hch (fun b hb => hne b (a2 b hb).2.1), fun b hb => ⟨(a2 b hb).1, (a2 b hb).2.1, Nat.lt_of_lt_of_le (a2 b hb).2.2 hch.size⟩⟩
 ·
  have hi' : i < qs.length := by simpa using hi
  have hj' : j < qs.length := by simpa using hj
  rw [List.getElem_set] at hbi ⊢
  have s1 : qs[i].set b := by
   by_cases e1 : k = i
   ·
    subst e1; simpa using hbi
   ·
    rw [if_neg e1] at hbi; exact hbi
  have s2 := hd i j hi' hj' hne' b s1
  by_cases e2 : k = j
  ·
   subst e2; simpa using s2
  ·
   rw [if_neg e2]; exact s2
end
theorem Chg.blk {lo hi : Nat} {w w' : World} (c : Chg (rng lo hi) w w') {b : Nat} {o : Obj} (h : w.heap[b]? = some o) (hb : b < lo ∨ hi ≤ b) : w'.heap[b]? = some o :=
 (c.block b (blk_lt h) (fun hs => by rcases hb with hb | hb <;> have := hs.1 <;> have := hs.2 <;> omega)).trans h
theorem rng_apart {a b c d : Nat} (h : b ≤ c ∨ d ≤ a) : ∀ x, rng a b x → ¬ rng c d x := by
 intro x h1 h2; have := h1.1; have := h1.2; have := h2.1; have := h2.2; omega
def markPart (k : Int) (x : Part) : Part := ⟨k, k + 1, k + 1 + 1, markL Hop.mk' 5 (k + 1 + 1 + 1) x.hops.length⟩
def markParts (k : Int) : List Part → List Part
  | [] => []
  | x :: l => markPart k x :: markParts (k + 3 + 5 * x.hops.length) l
def markN (l : List Part) : Int := 3 * l.length + 5 * hopsN l
theorem markParts_len (k : Int) (l : List Part) : (markParts k l).length = l.length := by
 induction l generalizing k with
 | nil => rfl
 | cons x l ih => simp [markParts, ih]
theorem hopsN_cons (x : Part) (l : List Part) : hopsN (x :: l) = x.hops.length + hopsN l := by simp [hopsN, Part.size]
theorem markParts_at (k : Int) (l : List Part) (j : Nat) (hj : j < l.length) : (markParts k l)[j]'(by rw [markParts_len]; exact hj) = markPart (k + 3 * j + 5 * hopsN (l.take j)) l[j] := by
 induction l generalizing k j with
 | nil => simp at hj
 | cons x l ih =>
  cases j with
  | zero => simp [markParts, hopsN]
  | succ j =>
   have h := ih (k + 3 + 5 * x.hops.length) j (by simpa using hj)
   have e1 : k + 3 + 5 * (x.hops.length : Int) + 3 * (j : Int) + 5 * ((hopsN (l.take j) : Nat) : Int) = k + 3 * ((j + 1 : Nat) : Int) + 5 * ((hopsN ((x :: l).take (j + 1)) : Nat) : Int) := by
    rw [List.take_succ_cons, hopsN_cons]; omega
   rw [e1] at h
   simpa [markParts] using h
theorem markParts_hops (k : Int) (l : List Part) : hopsN (markParts k l) = hopsN l := by
 induction l generalizing k with
 | nil => rfl
 | cons x l ih => rw [markParts, hopsN_cons, hopsN_cons, ih]; simp [markPart, markL]
theorem take_snocM {α : Type} {xs ms : List α} {j : Nat} (h : xs.take j = ms.take j) (hj : j < xs.length) (hm : j < ms.length) (y : α) (hy : ms[j] = y) : (xs.set j y).take (j + 1) = ms.take (j + 1) := by
 rw [List.take_succ_eq_append_getElem (by simpa using hj), List.take_succ_eq_append_getElem hm, List.take_set_of_le (Nat.le_refl _), h]
 simp [hy]
theorem drop_snocM {α : Type} {xs l : List α} {j : Nat} (h : xs.drop j = l.drop j) (y : α) : (xs.set j y).drop (j + 1) = l.drop (j + 1) := by
 rw [List.drop_set_of_lt (by omega), ← List.drop_drop, h, List.drop_drop]
theorem drop_getM {α : Type} {xs l : List α} {j : Nat} (h : xs.drop j = l.drop j) (h1 : j < xs.length) (h2 : j < l.length) : xs[j] = l[j] := by
 rw [List.drop_eq_getElem_cons h1, List.drop_eq_getElem_cons h2] at h; exact (List.cons.inj h).1
def Hop.ownS : Own Hop := Own.flat Hop.f 5 Hop.flen 71
end
section
open Go.ChangeShapes Go.WideShapes Go.ChangeAt Go.RowKit Go.Deep
def byteF (n : Int) : List Value := [.int .u8 n]
theorem byteFlen (n : Int) : (byteF n).length = 1 := rfl
theorem byteOne (n : Int) : ∀ u ∈ byteF n, u.oneCell' = true := by
 intro u hu; simp only [byteF, List.mem_cons, List.not_mem_nil, or_false] at hu; rw [hu]; rfl
theorem bytes_rep {base : Nat} {e : TypeId} {w : World} {v : Value} {l : List Int} (h : OwnF byteF 1 base e w v l) : RdS Rep.byte w v l := OwnF.rd (hf := byteFlen) h
theorem bytes_at {w : World} {o : Option Addr} {m cap : Nat} {l : List Int} (h : RdS Rep.byte w (.slice o m cap) l) (k : Nat) (hk : k < l.length) :
  ∃ b off, o = some ⟨b, off, none⟩ ∧ w.cell? ⟨b, off + k, none⟩ = some (.int .u8 l[k]) := by
 obtain ⟨b, off, ho, hc⟩ := RdS.at_flat h k hk; exact ⟨b, off, ho, by simpa using hc 0 _ rfl⟩
theorem bytes_own_at {base : Nat} {e : TypeId} {w : World} {g m cap : Nat} {l : List Int} (h : OwnF byteF 1 base e w (.slice (some ⟨g, 0, none⟩) m cap) l) (k : Nat) (hk : k < l.length) :
  w.cell? ⟨g, k, none⟩ = some (.int .u8 l[k]) := by
 have hc := OwnF.cells_flat byteFlen h k hk
 simpa using hc 0 _ rfl
theorem bytes_sets {l : List Int} {k : Nat} (x : Int) : (l.flatMap byteF).set k (.int .u8 x) = (l.set k x).flatMap byteF := by
 induction l generalizing k with
 | nil => simp
 | cons a l ih =>
  cases k with
  | zero => rfl
  | succ k =>
   have := ih (k := k); simp only [List.flatMap_cons, List.set_cons_succ, ← this, byteF]; rfl
theorem bytes_own_set {base : Nat} {e : TypeId} {w : World} {g m cap : Nat} {l : List Int} (h : OwnF byteF 1 base e w (.slice (some ⟨g, 0, none⟩) m cap) l) (k : Nat) (x : Int) :
  OwnF byteF 1 base e (w.setCell ⟨g, k, none⟩ (.int .u8 x)) (.slice (some ⟨g, 0, none⟩) m cap) (l.set k x) ∧ w.grownBy (w.setCell ⟨g, k, none⟩ (.int .u8 x)) (some g) := by
 obtain rfl := h.len; obtain ⟨h0, g0⟩ := World.ownsRow.stored h k (.int .u8 x); rw [bytes_sets] at h0; refine ⟨?_, g0⟩; unfold OwnF; rw [List.length_set]; exact h0
theorem Tryz.infoByte : (Tryz.prog.info? 5).map (fun i => (i.zero, i.size, i.bytes)) = some (some (.int .u8 0), 1, 1) := by kernel_rfl
theorem elemByte : Nonempty (Elem Tryz.prog 22 5 1 1) := Elem.mk' Tryz.underlying22 Tryz.infoByte rfl (by decide)
theorem opensBytes : Opens Tryz.prog 22 Rep.byte.slice (fun l => ∀ x ∈ l, U8 x) := opens_slice Tryz.underlying22 (by kernel_rfl) (by decide) (opens_byte Tryz.underlying5)
def byteMk (k : Int) : Int := k % 256
end
section
open Go.ChangeShapes Go.WideShapes Go.ChangeAt Go.RowKit Go.Deep
theorem blk10 {w : World} {b : Nat} {x0 x1 x2 x3 x4 x5 x6 x7 x8 x9 : Value} {t : TypeId} {f : Nat × Nat} (h : w.heap[b]? = some (.cells #[x0, x1, x2, x3, x4, x5, x6, x7, x8, x9] t f)) :
  w.cell? ⟨b, 0, none⟩ = some x0 ∧ w.cell? ⟨b, 1, none⟩ = some x1 ∧ w.cell? ⟨b, 2, none⟩ = some x2 ∧ w.cell? ⟨b, 3, none⟩ = some x3 ∧ w.cell? ⟨b, 4, none⟩ = some x4 ∧ w.cell? ⟨b, 5, none⟩ = some x5 ∧ w.cell? ⟨b, 6, none⟩ = some x6 ∧ w.cell? ⟨b, 7, none⟩ = some x7 ∧ w.cell? ⟨b, 8, none⟩ = some x8 ∧ w.cell? ⟨b, 9, none⟩ = some x9 :=
 ⟨blk_cell h 0, blk_cell h 1, blk_cell h 2, blk_cell h 3, blk_cell h 4, blk_cell h 5, blk_cell h 6, blk_cell h 7, blk_cell h 8, blk_cell h 9⟩
theorem len10 {α : Type} : ∀ {cs : List α}, cs.length = 10 → ∃ a0 a1 a2 a3 a4 a5 a6 a7 a8 a9, cs = [a0, a1, a2, a3, a4, a5, a6, a7, a8, a9]
 | [a0, a1, a2, a3, a4, a5, a6, a7, a8, a9], _ => ⟨a0, a1, a2, a3, a4, a5, a6, a7, a8, a9, rfl⟩
theorem Chg.setCell {S : Nat → Prop} {a b : World} (h : Chg S a b) {p : Addr} (hp : S p.block) (u : Value) : Chg S a (b.setCell p u) :=
 h.trans ⟨rfl, rfl, rfl, by simp, fun k _ hn => Below.heap_setCell _ _ _ _ (fun e => hn (by rw [e]; exact hp))⟩
structure Pkt where
  kind : Int
  src : Int
  dst : Int
  path : Pth
  pi : Int
  hi : Int
  beta : Int
  rid : Int
  seq : Int
  pay : List Int
  deriving DecidableEq
def Pkt.c (x : Pkt) (h0 h1 : Value) : List Value := [.int .i64 x.kind, .int .i64 x.src, .int .i64 x.dst, h0, .int .i64 x.pi, .int .i64 x.hi, .int .i64 x.beta, .int .i64 x.rid, .int .i64 x.seq, h1]
def Pkt.size (x : Pkt) : Nat := x.path.size + x.pay.length
def Pkt.rep : Rep Pkt where
  cells := 10
  rd w cs x := ∃ v0 v1, cs = [.int .i64 x.kind, .int .i64 x.src, .int .i64 x.dst, v0, .int .i64 x.pi, .int .i64 x.hi, .int .i64 x.beta, .int .i64 x.rid, .int .i64 x.seq, v1] ∧ RdS Part.rep w v0 x.path.parts ∧ RdS Rep.byte w v1 x.pay
  len := by rintro w cs a ⟨v0, v1, rfl, _⟩; rfl
  ext := by rintro w w' cs a e ⟨v0, v1, rfl, h0, h1⟩; exact ⟨v0, v1, rfl, h0.ext e, h1.ext e⟩
def Pkt.ok (x : Pkt) : Prop := I64 x.kind ∧ I64 x.src ∧ I64 x.dst ∧ x.path.ok ∧ I64 x.pi ∧ I64 x.hi ∧ I64 x.beta ∧ I64 x.rid ∧ I64 x.seq ∧ ∀ y ∈ x.pay, U8 y
def byteOwn : Own Int := Own.flat byteF 1 byteFlen 5
def Pkt.own (S : Nat → Prop) (w : World) (h0 h1 : Value) (x : Pkt) : Prop :=
  ∃ S0 S1 : Nat → Prop, Part.own.own S0 w h0 x.path.parts ∧ byteOwn.own S1 w h1 x.pay ∧ (∀ b, S0 b → S b) ∧ (∀ b, S1 b → S b) ∧ ∀ b, S0 b → ¬ S1 b
theorem Pkt.own_kept {S T : Nat → Prop} {w w' : World} {h0 h1 : Value} {x : Pkt} (h : Pkt.own S w h0 h1 x) (c : Chg T w w') (hs : ∀ b, S b → ¬ T b) : Pkt.own S w' h0 h1 x := by
 obtain ⟨S0, S1, a, b, c0, c1, d⟩ := h; exact ⟨S0, S1, Part.own.kept a c (fun k hk => hs k (c0 k hk)), byteOwn.kept b c (fun k hk => hs k (c1 k hk)), c0, c1, d⟩
theorem Pkt.own_ext {S : Nat → Prop} {w w' : World} {h0 h1 : Value} {x : Pkt} (h : Pkt.own S w h0 h1 x) (e : Ext w w') : Pkt.own S w' h0 h1 x :=
 Pkt.own_kept h (Chg.ofExt (S := noB) e) (fun _ _ h => h)
theorem Pkt.own_mono {S T : Nat → Prop} {w : World} {h0 h1 : Value} {x : Pkt} (h : Pkt.own S w h0 h1 x) (hs : ∀ b, S b → T b) : Pkt.own T w h0 h1 x := by
 obtain ⟨S0, S1, a, b, c0, c1, d⟩ := h; exact ⟨S0, S1, a, b, fun k hk => hs k (c0 k hk), fun k hk => hs k (c1 k hk), d⟩
theorem Pkt.own_rd0 {S : Nat → Prop} {w : World} {h0 h1 : Value} {x : Pkt} (h : Pkt.own S w h0 h1 x) : RdS Part.rep w h0 x.path.parts := by
 obtain ⟨S0, S1, a, _⟩ := h; exact Part.own.rd a
theorem Pkt.own_rd1 {S : Nat → Prop} {w : World} {h0 h1 : Value} {x : Pkt} (h : Pkt.own S w h0 h1 x) : RdS Rep.byte w h1 x.pay := by
 obtain ⟨S0, S1, _, b, _⟩ := h; exact byteOwn.rd b
theorem Pkt.own_inb {S : Nat → Prop} {w : World} {h0 h1 : Value} {x : Pkt} (h : Pkt.own S w h0 h1 x) : Pkt.own (fun b => S b ∧ b < w.heap.size) w h0 h1 x := by
 obtain ⟨S0, S1, a, b, c0, c1, d⟩ := h; exact ⟨_, _, Part.own.inb a, byteOwn.inb b, fun k hk => ⟨c0 k hk.1, hk.2⟩, fun k hk => ⟨c1 k hk.1, hk.2⟩, fun k hk h2 => d k hk.1 h2.1⟩
def Pkt.cnt (x : Pkt) : Int := markN x.path.parts + 1 * x.pay.length
def Pkt.marked (k : Int) (x : Pkt) : Pkt := { x with path := ⟨markParts k x.path.parts⟩, pay := markL byteMk 1 (k + markN x.path.parts) x.pay.length }
theorem Pkt.cnt_le {x : Pkt} (h : x.size ≤ 1048576) : 0 ≤ x.cnt ∧ x.cnt ≤ 5242880 := by
 unfold Pkt.size Pth.size at h; unfold Pkt.cnt markN; omega
theorem Pkt.cnt_parts {x : Pkt} : 0 ≤ markN x.path.parts ∧ markN x.path.parts ≤ x.cnt := by unfold Pkt.cnt markN; omega
end
end Go.Proofs.YtcpfmhgfaliemaaGreat
