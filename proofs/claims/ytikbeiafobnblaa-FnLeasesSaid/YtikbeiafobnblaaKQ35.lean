/- What these laws need: FnLeases: Contracts of the functions on integers that the laws of this part reach. Contracts of the functions on parts and paths, program and reference. Contracts of the functions on revocations, program and reference, and of the laws over them. Contracts of the functions on reservations, program and reference. Contracts of the filters over revocations and reservations, program and reference. Contracts of the admission of reservations, program and reference. -/
import Derived.Deep.DeepCutAuto
import Derived.Deep.LoopGhost
import Derived.IntWalk
import Derived.Test.YtikbeiafobnblaaKQ21
namespace Go.Proofs.Ytikbeiafobnblaa
section
open Go.ChangeShapes Go.WideShapes Go.ChangeAt Go.RowKit Go.Deep
set_option maxHeartbeats 400000 in
theorem i_Max (a b : Int) (w : World) :
  Calls Try.prog 206 #[.int .i64 a, .int .i64 b] w fun e w' => e = .returned (.int .i64 (max a b)) ∧ w = w' := by
 go_enter Try.func206, Try.ntmps206
 go_wp2
 all_goals
  go_ret
  refine ⟨ret_int ?_, rfl⟩
  omega
set_option maxHeartbeats 400000 in
theorem s_Max (a b : Int) (w : World) :
  Calls Try.prog 207 #[.int .i64 a, .int .i64 b] w fun e w' => e = .returned (.int .i64 (max a b)) ∧ w = w' := by
 go_enter Try.func207, Try.ntmps207
 go_wp2
 all_goals
  go_ret
  refine ⟨ret_int ?_, rfl⟩
  omega
end
section
open Go.ChangeShapes Go.WideShapes Go.ChangeAt Go.RowKit Go.Deep
theorem elemStp : Nonempty (Elem Try.prog 43 120 3 24) := Elem.mk' Try.underlying43 Try.infoStep rfl (by decide)
end
section
open Go.ChangeShapes Go.WideShapes Go.ChangeAt Go.RowKit Go.Deep
def validRev (x : Revc) : Bool := inR x.asn 0 7 && inR x.iface 1 6 && inR x.till 0 1000000
set_option maxHeartbeats 400000 in
theorem i_ValidRevocation (x : Revc) (w : World) :
  Calls Try.prog 228 #[.agg #[.int .i64 x.asn, .int .i64 x.iface, .int .i64 x.till]] w fun e w' => e = .returned (.bool (validRev x)) ∧ Ext w w' := by
 go_enter Try.func228, Try.ntmps228
 go_wp2_with (go_at_call 110; refine (i_InRange _ _ _ _).mono ?_; rintro e w' ⟨rfl, rfl⟩)
 all_goals
  go_ret
  refine ⟨ret_bool ?_, (Ext.refl _).alloc _⟩
  simp [validRev, *]
set_option maxHeartbeats 400000 in
theorem s_ValidRevocation (x : Revc) (w : World) :
  Calls Try.prog 229 #[.agg #[.int .i64 x.asn, .int .i64 x.iface, .int .i64 x.till]] w fun e w' => e = .returned (.bool (validRev x)) ∧ Ext w w' := by
 go_enter Try.func229, Try.ntmps229
 go_wp2_with (go_at_call 123; refine (s_l1In _ _ _ _).mono ?_; rintro e w' ⟨rfl, rfl⟩)
 all_goals
  go_ret
  refine ⟨ret_bool ?_, (Ext.refl _).alloc _⟩
  simp [validRev, *]
end
section
open Go.ChangeShapes Go.WideShapes Go.ChangeAt Go.RowKit Go.Deep
def resvAt (r : Resv) (a i : Int) : Bool := (r.asn == a) && (r.iface == i)
def resvAtNow (r : Resv) (a i now : Int) : Bool := resvAt r a i && decide (now ≤ r.till)
def validResv (x : Resv) : Bool := inR x.id 1 100000 && inR x.rate 1 20 && validRev ⟨x.asn, x.iface, x.till⟩
set_option maxHeartbeats 400000 in
theorem i_at (r : Resv) (a i : Int) (w : World) :
    Calls Try.prog 197 #[.agg #[.int .i64 r.id, .int .i64 r.asn, .int .i64 r.iface, .int .i64 r.rate, .int .i64 r.till], .int .i64 a, .int .i64 i] w fun e w' => e = .returned (.bool (resvAt r a i)) ∧ Ext w w' := by
  go_enter Try.func197, Try.ntmps197
  go_wp2
  all_goals
    go_ret
    refine ⟨ret_bool ?_, (Ext.refl _).alloc _⟩
    simp [resvAt, *]
    try rfl
set_option maxHeartbeats 400000 in
theorem s_l32At (r : Resv) (a i now : Int) (w : World) :
    Calls Try.prog 205 #[.agg #[.int .i64 r.id, .int .i64 r.asn, .int .i64 r.iface, .int .i64 r.rate, .int .i64 r.till], .int .i64 a, .int .i64 i, .int .i64 now] w fun e w' => e = .returned (.bool (resvAtNow r a i now)) ∧ Ext w w' := by
  go_enter Try.func205, Try.ntmps205
  go_wp2
  all_goals
    go_ret
    refine ⟨ret_bool ?_, (Ext.refl _).alloc _⟩
    simp [resvAtNow, resvAt, *]
    try rfl
set_option maxHeartbeats 400000 in
theorem i_ValidReservation (x : Resv) (w : World) :
    Calls Try.prog 198 #[.agg #[.int .i64 x.id, .int .i64 x.asn, .int .i64 x.iface, .int .i64 x.rate, .int .i64 x.till]] w fun e w' => e = .returned (.bool (validResv x)) ∧ Ext w w' := by
  go_enter Try.func198, Try.ntmps198
  go_wp2_with (first | (go_at_call 110; refine (i_InRange _ _ _ _).mono ?_; rintro e w' ⟨rfl, rfl⟩) | (go_at_call 228; refine (i_ValidRevocation ⟨x.asn, x.iface, x.till⟩ _).mono ?_; rintro e w' ⟨rfl, hx⟩))
  all_goals
    go_ret
    refine ⟨ret_bool ?_, by first | exact ((Ext.refl _).alloc _).trans hx | exact (Ext.refl _).alloc _⟩
    simp only [validResv, *, Bool.true_and, Bool.false_and, Bool.and_false, Bool.and_true]
set_option maxHeartbeats 400000 in
theorem s_ValidReservation (x : Resv) (w : World) :
    Calls Try.prog 201 #[.agg #[.int .i64 x.id, .int .i64 x.asn, .int .i64 x.iface, .int .i64 x.rate, .int .i64 x.till]] w fun e w' => e = .returned (.bool (validResv x)) ∧ Ext w w' := by
  go_enter Try.func201, Try.ntmps201
  have hB := blk_new w (.cells #[.int .i64 x.id, .int .i64 x.asn, .int .i64 x.iface, .int .i64 x.rate, .int .i64 x.till] 171)
  have HB := Lib.hid hB; clear hB
  go_wp2_with (first | (go_at_call 123; refine (s_l1In _ _ _ _).mono ?_; rintro e w' ⟨rfl, rfl⟩) | (go_at_call 229; refine (s_ValidRevocation ⟨x.asn, x.iface, x.till⟩ _).mono ?_; rintro e w' ⟨rfl, hx⟩; have hcc := blk5 (hx.block HB.out)))
  all_goals
    go_ret
    refine ⟨ret_bool ?_, by first | exact ((Ext.refl _).alloc _).trans hx | exact (Ext.refl _).alloc _⟩
    simp only [validResv, *, Bool.true_and, Bool.false_and, Bool.and_false, Bool.and_true]
def sumRate (a i now : Int) : List Resv → Int → Int
  | [], n => n
  | r :: l, n => sumRate a i now l (if resvAtNow r a i now then wrap64 (n + r.rate) else n)
def resvdRate (l : List Resv) (a i now : Int) : Int := sumRate a i now l 0
def resvRate (l : List Resv) (id a i now : Int) : Int :=
  match l with
  | [] => 0
  | r :: l => if (r.id == id) && resvAtNow r a i now then r.rate else resvRate l id a i now
def freeRate (l : List Resv) (cap a i now : Int) : Int := max 0 (wrap64 (cap - resvdRate l a i now))
set_option maxHeartbeats 400000 in
theorem i_ReservedRate (l : List Resv) (v : Value) (a i now : Int) (w : World) (hv : RdS Resv.rep w v l) :
    Calls Try.prog 199 #[v, .int .i64 a, .int .i64 i, .int .i64 now] w fun e w' => e = .returned (.int .i64 (resvdRate l a i now)) ∧ Ext w w' := by
  obtain ⟨o, cap, rfl, hsm⟩ := hv.shape
  go_enter Try.func199, Try.ntmps199
  go_wp2
  go_loopw [9, 14] (fun n i' wr => ∃ k : Nat, k ≤ l.length ∧ i' = .int .i64 k ∧ (∃ m : Int, n = .int .i64 m ∧ sumRate a i now (l.drop k) m = resvdRate l a i now) ∧ Ext w wr) (fun _ i _ => l.length - (intOf i).toNat)
  case atStart => exact ⟨0, Nat.zero_le _, rfl, ⟨_, rfl, rfl⟩, Ext.refl _⟩
  case round =>
    obtain ⟨k, hk, rfl, ⟨m, rfl, hm⟩, hx⟩ := hrel
    have Hm := Lib.hid hm; clear hm
    by_cases hlt : k < l.length
    · obtain ⟨b, off, rfl, hc⟩ := Resv.at (hv.ext hx) k hlt
      have hstep : sumRate a i now (l.drop (k + 1)) (if resvAtNow l[k] a i now then wrap64 (m + l[k].rate) else m) = resvdRate l a i now := by
        rw [← Hm.out, List.drop_eq_getElem_cons hlt]; rfl
      have HS := Lib.hid hstep; clear hstep
      go_wp2_with fail
      refine (i_at l[k] _ _ _).mono ?_
      rintro e w1 ⟨rfl, h1⟩
      have hb := blk5 (h1.block (blk_new wr _))
      have hx1 := (hx.alloc _).trans h1
      go_wp2_with fail
      all_goals
        go_roundw
        case rel =>
          refine ⟨k + 1, by omega, by go_num, ⟨_, rfl, ?_⟩, hx1⟩
          rw [← HS.out]
          simp [resvAtNow, *]
          try (rw [if_neg (by omega)])
        case measure => simp [intOf]; omega
    · go_wp2
      go_ret
      refine ⟨?_, hx⟩
      rw [← Hm.out, List.drop_of_length_le (by omega)]; rfl
set_option maxHeartbeats 400000 in
theorem s_ReservedRate (l : List Resv) (v : Value) (a i now : Int) (w : World) (hv : RdS Resv.rep w v l) :
    Calls Try.prog 202 #[v, .int .i64 a, .int .i64 i, .int .i64 now] w fun e w' => e = .returned (.int .i64 (resvdRate l a i now)) ∧ Ext w w' := by
  obtain ⟨o, cap, rfl, hsm⟩ := hv.shape
  go_enter Try.func202, Try.ntmps202
  go_wp2
  go_loopw [9, 10] (fun n i' wr => ∃ k : Nat, k ≤ l.length ∧ i' = .int .i64 k ∧ (∃ m : Int, n = .int .i64 m ∧ sumRate a i now (l.drop k) m = resvdRate l a i now) ∧ Ext w wr) (fun _ i _ => l.length - (intOf i).toNat)
  case atStart => exact ⟨0, Nat.zero_le _, rfl, ⟨_, rfl, rfl⟩, Ext.refl _⟩
  case round =>
    obtain ⟨k, hk, rfl, ⟨m, rfl, hm⟩, hx⟩ := hrel
    have Hm := Lib.hid hm; clear hm
    by_cases hlt : k < l.length
    · obtain ⟨b, off, rfl, hcw⟩ := Resv.at hv k hlt
      have hc := Resv.at_ext hx hcw
      have hstep : sumRate a i now (l.drop (k + 1)) (if resvAtNow l[k] a i now then wrap64 (m + l[k].rate) else m) = resvdRate l a i now := by
        rw [← Hm.out, List.drop_eq_getElem_cons hlt]; rfl
      have HS := Lib.hid hstep; clear hstep
      go_wp2_with fail
      refine (s_l32At l[k] _ _ _ _).mono ?_
      rintro e w1 ⟨rfl, h1⟩
      have hx1 := hx.trans h1
      have hc1 := Resv.at_ext hx1 hcw
      go_wp2_with fail
      all_goals
        go_roundw
        case rel =>
          refine ⟨k + 1, by omega, by go_num, ⟨_, rfl, ?_⟩, hx1⟩
          rw [← HS.out]
          simp [*]
        case measure => simp [intOf]; omega
    · go_wp2
      go_ret
      refine ⟨?_, hx⟩
      rw [← Hm.out, List.drop_of_length_le (by omega)]; rfl
set_option maxHeartbeats 400000 in
theorem i_ReservationRate (l : List Resv) (v : Value) (id a i now : Int) (w : World) (hv : RdS Resv.rep w v l) :
    Calls Try.prog 145 #[v, .int .i64 id, .int .i64 a, .int .i64 i, .int .i64 now] w fun e w' => e = .returned (.int .i64 (resvRate l id a i now)) ∧ Ext w w' := by
  obtain ⟨o, cap, rfl, hsm⟩ := hv.shape
  go_enter Try.func145, Try.ntmps145
  go_wp2
  go_loopw [15] (fun i' wr => ∃ k : Nat, k ≤ l.length ∧ i' = .int .i64 k ∧ resvRate (l.drop k) id a i now = resvRate l id a i now ∧ Ext w wr) (fun i _ => l.length - (intOf i).toNat)
  case atStart => exact ⟨0, Nat.zero_le _, rfl, rfl, Ext.refl _⟩
  case round =>
    obtain ⟨k, hk, rfl, hm, hx⟩ := hrel
    have Hm := Lib.hid hm; clear hm
    by_cases hlt : k < l.length
    · obtain ⟨b, off, rfl, hcw⟩ := Resv.at hv k hlt
      have hc := Resv.at_ext hx hcw
      have hstep : (if (l[k].id == id) && resvAtNow l[k] a i now then l[k].rate else resvRate (l.drop (k + 1)) id a i now) = resvRate l id a i now := by
        rw [← Hm.out, List.drop_eq_getElem_cons hlt]; rfl
      have HS := Lib.hid hstep; clear hstep
      by_cases hid : l[k].id = id
      · have tid : (l[k].id == id) = true := by simp [hid]
        clear hid
        go_wp2_with fail
        refine (i_at l[k] _ _ _).mono ?_
        rintro e w1 ⟨rfl, h1⟩
        have hb := blk5 (h1.block (blk_new wr _))
        have hx1 := (hx.alloc _).trans h1
        go_wp2_with fail
        all_goals first
          | (go_ret; refine ⟨ret_int ?_, hx1⟩; rw [← HS.out, if_pos (by simp [resvAtNow, *])])
          | (go_roundw
             case rel =>
               refine ⟨k + 1, by omega, by go_num, ?_, hx1⟩
               rw [← HS.out, if_neg (by simp [resvAtNow, *]; try omega)]
             case measure => simp [intOf]; omega)
      · have tid : (l[k].id == id) = false := by simp [hid]
        clear hid
        go_wp2_with fail
        go_roundw
        case rel =>
          refine ⟨k + 1, by omega, by go_num, ?_, hx.alloc _⟩
          rw [← HS.out, if_neg (by simp [tid])]
        case measure => simp [intOf]; omega
    · go_wp2
      go_ret
      refine ⟨?_, hx⟩
      rw [← Hm.out, List.drop_of_length_le (by omega)]; rfl
set_option maxHeartbeats 400000 in
theorem i_FreeRate (l : List Resv) (v : Value) (c a i now : Int) (w : World) (hv : RdS Resv.rep w v l) :
    Calls Try.prog 150 #[v, .int .i64 c, .int .i64 a, .int .i64 i, .int .i64 now] w fun e w' => e = .returned (.int .i64 (freeRate l c a i now)) ∧ Ext w w' := by
  obtain ⟨o, cap, rfl, hsm⟩ := hv.shape
  go_enter Try.func150, Try.ntmps150
  go_wp2_with fail
  refine (i_ReservedRate l _ _ _ _ _ hv).mono ?_
  rintro e w1 ⟨rfl, h1⟩
  go_wp2_with fail
  refine (i_Max _ _ _).mono ?_
  rintro e w2 ⟨rfl, rfl⟩
  go_wp2_with fail
  go_ret
  exact ⟨rfl, h1⟩
set_option maxHeartbeats 400000 in
theorem s_ReservationRate (l : List Resv) (v : Value) (id a i now : Int) (w : World) (hv : RdS Resv.rep w v l) :
    Calls Try.prog 146 #[v, .int .i64 id, .int .i64 a, .int .i64 i, .int .i64 now] w fun e w' => e = .returned (.int .i64 (resvRate l id a i now)) ∧ Ext w w' := by
  obtain ⟨o, cap, rfl, hsm⟩ := hv.shape
  go_enter Try.func146, Try.ntmps146
  go_wp2
  go_loopw [11] (fun i' wr => ∃ k : Nat, k ≤ l.length ∧ i' = .int .i64 k ∧ resvRate (l.drop k) id a i now = resvRate l id a i now ∧ Ext w wr) (fun i _ => l.length - (intOf i).toNat)
  case atStart => exact ⟨0, Nat.zero_le _, rfl, rfl, Ext.refl _⟩
  case round =>
    obtain ⟨k, hk, rfl, hm, hx⟩ := hrel
    have Hm := Lib.hid hm; clear hm
    by_cases hlt : k < l.length
    · obtain ⟨b, off, rfl, hcw⟩ := Resv.at hv k hlt
      have hc := Resv.at_ext hx hcw
      have hstep : (if (l[k].id == id) && resvAtNow l[k] a i now then l[k].rate else resvRate (l.drop (k + 1)) id a i now) = resvRate l id a i now := by
        rw [← Hm.out, List.drop_eq_getElem_cons hlt]; rfl
      have HS := Lib.hid hstep; clear hstep
      by_cases hid : l[k].id = id
      · have tid : (l[k].id == id) = true := by simp [hid]
        clear hid
        go_wp2_with fail
        refine (s_l32At l[k] _ _ _ _).mono ?_
        rintro e w1 ⟨rfl, h1⟩
        have hx1 := hx.trans h1
        have hc1 := Resv.at_ext hx1 hcw
        go_wp2_with fail
        all_goals first
          | (go_ret; refine ⟨ret_int ?_, hx1⟩; rw [← HS.out, if_pos (by simp [*])])
          | (go_roundw
             case rel =>
               refine ⟨k + 1, by omega, by go_num, ?_, hx1⟩
               rw [← HS.out, if_neg (by simp [*]; try omega)]
             case measure => simp [intOf]; omega)
      · have tid : (l[k].id == id) = false := by simp [hid]
        clear hid
        go_wp2_with fail
        go_roundw
        case rel =>
          refine ⟨k + 1, by omega, by go_num, ?_, hx⟩
          rw [← HS.out, if_neg (by simp [tid])]
        case measure => simp [intOf]; omega
    · go_wp2
      go_ret
      refine ⟨?_, hx⟩
      rw [← Hm.out, List.drop_of_length_le (by omega)]; rfl
set_option maxHeartbeats 400000 in
theorem s_FreeRate (l : List Resv) (v : Value) (c a i now : Int) (w : World) (hv : RdS Resv.rep w v l) :
    Calls Try.prog 151 #[v, .int .i64 c, .int .i64 a, .int .i64 i, .int .i64 now] w fun e w' => e = .returned (.int .i64 (freeRate l c a i now)) ∧ Ext w w' := by
  obtain ⟨o, cap, rfl, hsm⟩ := hv.shape
  go_enter Try.func151, Try.ntmps151
  go_wp2_with fail
  refine (s_ReservedRate l _ _ _ _ _ hv).mono ?_
  rintro e w1 ⟨rfl, h1⟩
  go_wp2_with fail
  refine (s_Max _ _ _).mono ?_
  rintro e w2 ⟨rfl, rfl⟩
  go_wp2_with fail
  go_ret
  exact ⟨rfl, h1⟩
set_option maxRecDepth 100000 in
set_option maxHeartbeats 400000 in
theorem i_EqualReservations (a : List Resv) (va : Value) (b : List Resv) (vb : Value) (w : World) (ha : RdS Resv.rep w va a) (hb : RdS Resv.rep w vb b) :
    Calls Try.prog 66 #[va, vb] w fun e w' => e = .returned (.bool (decide (a = b))) ∧ Ext w w' := by
  obtain ⟨oa, ca, rfl, hsa⟩ := ha.shape
  obtain ⟨ob, cb, rfl, hsb⟩ := hb.shape
  by_cases hne : a.length = b.length
  · have Hne := Lib.hid hne
    have t1 : ((a.length : Int) != (b.length : Int)) = false := by simp [hne]
    clear hne
    go_enter Try.func66, Try.ntmps66
    go_wp2
    go_loopw [13] (fun i wr => ∃ (k : Nat), k ≤ a.length ∧ i = .int .i64 k ∧ a.take k = b.take k ∧ Ext w wr) (fun i _ => a.length - (intOf i).toNat)
    case atStart => exact ⟨0, Nat.zero_le _, rfl, rfl, Ext.refl _⟩
    case round =>
      obtain ⟨k, hk, rfl, htk, hx⟩ := hrel
      have Htk := Lib.hid htk; clear htk
      by_cases hlt : k < a.length
      · have hlb : k < b.length := by rw [← Hne.out]; exact hlt
        obtain ⟨b1, off1, rfl, hc1⟩ := Resv.at (ha.ext hx) k hlt
        obtain ⟨b2, off2, rfl, hc2⟩ := Resv.at (hb.ext hx) k hlb
        go_wp2
        go_still_tail 8, (by kernel_rfl)
        go_wp2_with fail
        all_goals first
          | (go_ret; exact ⟨ret_bool (Eq.symm (decide_eq_false (by rintro rfl; contradiction))), hx.drew⟩)
          | exact ⟨⟨k + 1, by omega, by go_num, take_snoc2 Htk.out hlt hlb (Resv.ext' (by assumption) (by assumption) (by assumption) (by assumption) (by assumption)), hx.drew⟩, by simp [intOf]; omega⟩
      · have hab : decide (a = b) = true := by
          have := Htk.out
          rw [List.take_of_length_le (by omega), List.take_of_length_le (by rw [← Hne.out]; omega)] at this
          simp [this]
        have Hab := Lib.hid hab; clear hab
        go_wp2
        go_ret
        exact ⟨ret_bool Hab.out.symm, hx⟩
  · have t1 : ((a.length : Int) != (b.length : Int)) = true := by simp [bne_iff_ne]; omega
    have hab : decide (a = b) = false := by
      rw [decide_eq_false_iff_not]; rintro rfl; exact hne rfl
    have Hab := Lib.hid hab; clear hab
    clear hne
    go_enter Try.func66, Try.ntmps66
    go_wp2
    go_ret
    exact ⟨ret_bool Hab.out.symm, Ext.refl _⟩
end
section
open Go.ChangeShapes Go.WideShapes Go.ChangeAt Go.RowKit Go.Deep
theorem elemResv : Nonempty (Elem Try.prog 91 171 5 40) := Elem.mk' Try.underlying91 Try.infoResv rfl (by decide)
def activeRevs (now : Int) (l : List Revc) : List Revc := l.filter fun x => decide (now ≤ x.till)
def activeResvs (now : Int) (l : List Resv) : List Resv := l.filter fun x => decide (now ≤ x.till)
def release (id : Int) (l : List Resv) : List Resv := l.filter fun x => x.id != id
set_option maxHeartbeats 1000000 in
theorem i_Release (l : List Resv) (v : Value) (id : Int) (w : World) (hv : RdS Resv.rep w v l) (hl : l.length ≤ 1048576) :
  Calls Try.prog 71 #[v, .int .i64 id] w fun e w' => ∃ v', e = .returned v' ∧ OwnF Resv.f 5 w.heap.size 171 w' v' ((release id) l) ∧ Ext w w' := by
 obtain ⟨o, cap, rfl, hsm⟩ := hv.shape
 obtain ⟨E⟩ := elemResv
 go_enter Try.func71, Try.ntmps71
 go_wp2
 go_loopw [5, 10] (fun out i wr => ∃ (k : Nat), k ≤ l.length ∧ i = .int .i64 k ∧ OwnF Resv.f 5 w.heap.size 171 wr out ((release id) (l.take k)) ∧ Ext w wr) (fun _ i _ => l.length - (intOf i).toNat)
 case atStart => exact ⟨0, Nat.zero_le _, rfl, OwnF.nil _ _ _ _ _, Ext.refl _⟩
 case round =>
  obtain ⟨k, hk, rfl, hown, hx⟩ := hrel
  by_cases hlt : k < l.length
  ·
   obtain ⟨b, off, rfl, hc⟩ := Resv.at (hv.ext hx) k hlt
   have hln : ((release id) (l.take k)).length ≤ k := Nat.le_trans (List.length_filter_le _ _) (List.length_take_le _ _)
   by_cases ht : (l[k].id != id) = true
   ·
    have hnext : (release id) (l.take k) ++ [l[k]] = (release id) (l.take (k + 1)) := filter_pos (α := Resv) (fun x : Resv => x.id != id) hlt ht
    have HN := Lib.hid hnext; clear hnext
    have ht2 : (l[k].id != id) = true := ht
    go_wp2_with (at_builtin; refine app1 E Resv.flen Resv.one rfl _ _ rfl l[k] rfl (OwnF.ext hown (((Ext.refl _).alloc _).alloc _)) rfl (by exact blk_list l[k].f (blk_new2 wr _ _)) (by omega) (by unfold maxLen; omega) (by exact ((hx.alloc _).alloc _).size) ?_)
    intro v' w' ho' hg'
    have hx' : Ext w w' := ((hx.alloc _).alloc _).app hg' hown (Nat.le_refl _)
    rw [HN.out] at ho'
    clear hg'
    go_wp2
    go_roundw
    case rel => exact ⟨k + 1, by omega, by go_num, ho', hx'⟩
    case measure => simp [intOf]; omega
   ·
    have hnext : (release id) (l.take k) = (release id) (l.take (k + 1)) := filter_neg (α := Resv) (fun x : Resv => x.id != id) hlt ht
    have HN := Lib.hid hnext; clear hnext
    have ht2 : (l[k].id != id) = false := by simpa using ht
    rw [HN.out] at hown
    go_wp2_with fail
    go_roundw
    case rel => exact ⟨k + 1, by omega, by go_num, hown.ext ((Ext.refl _).alloc _), hx.alloc _⟩
    case measure => simp [intOf]; omega
  ·
   go_wp2
   go_ret
   rw [List.take_of_length_le (by omega)] at hown
   exact ⟨_, rfl, hown, hx⟩
end
section
open Go.ChangeShapes Go.WideShapes Go.ChangeAt Go.RowKit Go.Deep
/-- y is not the reservation x's number at x's interface. -/
def otherResv (x y : Resv) : Bool := (y.id != x.id) || !(resvAt y x.asn x.iface)
def without (x : Resv) (l : List Resv) : List Resv := l.filter (otherResv x)
def tooMuch (l : List Resv) (x : Resv) (c now : Int) : Bool := decide (c < wrap64 (resvdRate (without x l) x.asn x.iface now + x.rate))
def refused (l : List Resv) (x : Resv) (c now : Int) : Bool := !(validResv x) || (decide (x.till < now)) || tooMuch l x c now || decide (40 ≤ (without x l).length)
def admit (l : List Resv) (x : Resv) (c now : Int) : List Resv × Bool := if refused l x c now then (l, false) else (without x l ++ [x], true)
theorem admit_no {l : List Resv} {x : Resv} {c now : Int} (h : refused l x c now = true) : admit l x c now = (l, false) := if_pos h
theorem admit_yes {l : List Resv} {x : Resv} {c now : Int} (h : refused l x c now = false) : admit l x c now = (without x l ++ [x], true) := if_neg (by rw [h]; decide)
theorem without_le (x : Resv) (l : List Resv) : (without x l).length ≤ l.length := List.length_filter_le _ _
set_option maxHeartbeats 400000 in
theorem i_copyReservations (l : List Resv) (v : Value) (w : World) (hv : RdS Resv.rep w v l) (hl : l.length ≤ 1099511627776) :
  Calls Try.prog 141 #[v] w fun e w' => ∃ v', e = .returned v' ∧ OwnF Resv.f 5 w.heap.size 171 w' v' l ∧ Ext w w' := by
 obtain ⟨E⟩ := elemResv
 go_enter Try.func141, Try.ntmps141
 go_wp2_with (at_builtin; refine appS E Resv.flen Resv.one rfl _ _ rfl l rfl (OwnF.empty Resv.f 5 w.heap.size _ w (Nat.le_refl _)) rfl (hv.ext ((Ext.refl _).alloc _)) (by first | omega | (simp; omega)) (by first | (unfold maxLen; omega) | (simp [maxLen]; omega)) (by simp) ?_)
 intro v' w' ho' hg'
 have hx' : Ext w w' := ((Ext.refl w).alloc _).app hg' (OwnF.empty Resv.f 5 w.heap.size 171 w (Nat.le_refl _)) (Nat.le_refl _)
 try rw [List.nil_append] at ho'
 clear hg'
 go_wp2
 go_ret
 exact ⟨_, rfl, ho', hx'⟩
set_option maxRecDepth 100000 in
set_option maxHeartbeats 40000000 in
theorem i_Admit (l : List Resv) (v : Value) (x : Resv) (c now : Int) (w : World) (hv : RdS Resv.rep w v l) (hl : l.length ≤ 1048576) :
  Calls Try.prog 142 #[v, .agg #[.int .i64 x.id, .int .i64 x.asn, .int .i64 x.iface, .int .i64 x.rate, .int .i64 x.till], .int .i64 c, .int .i64 now] w fun e w' => ∃ v', e = .returned (.tuple #[v', .bool (admit l x c now).2]) ∧ OwnF Resv.f 5 w.heap.size 171 w' v' (admit l x c now).1 ∧ Ext w w' := by
 obtain ⟨o, cap, rfl, hsm⟩ := hv.shape
 obtain ⟨E⟩ := elemResv
 go_enter Try.func142, Try.ntmps142
 go_wp2
 have hB := blk_new w (.cells #[.int .i64 x.id, .int .i64 x.asn, .int .i64 x.iface, .int .i64 x.rate, .int .i64 x.till] 171)
 have hx0 := (Ext.refl w).alloc (.cells #[.int .i64 x.id, .int .i64 x.asn, .int .i64 x.iface, .int .i64 x.rate, .int .i64 x.till] 171)
 generalize w.alloc (.cells #[.int .i64 x.id, .int .i64 x.asn, .int .i64 x.iface, .int .i64 x.rate, .int .i64 x.till] 171) = W0 at hB hx0 ⊢
 have HB := Lib.hid hB; clear hB
 go_loopw [10, 15] (fun out i wr => ∃ (k : Nat), k ≤ l.length ∧ i = .int .i64 k ∧ OwnF Resv.f 5 W0.heap.size 171 wr out (without x (l.take k)) ∧ Ext W0 wr) (fun _ i _ => l.length - (intOf i).toNat)
 case atStart => exact ⟨0, Nat.zero_le _, rfl, OwnF.nil _ _ _ _ _, Ext.refl _⟩
 case round =>
  obtain ⟨k, hk, rfl, hown, hx⟩ := hrel
  have hbr := hx.block HB.out
  have hcb := blk5 hbr
  have HBr := Lib.hid hbr; clear hbr
  by_cases hlt : k < l.length
  ·
   obtain ⟨b, off, rfl, hc⟩ := Resv.at (hv.ext (hx0.trans hx)) k hlt
   have hln : (without x (l.take k)).length ≤ k := Nat.le_trans (without_le _ _) (List.length_take_le _ _)
   have hcb2 := blk5 (Ext.block ((Ext.refl wr).alloc (.cells #[.int .i64 l[k].id, .int .i64 l[k].asn, .int .i64 l[k].iface, .int .i64 l[k].rate, .int .i64 l[k].till] 171)) HBr.out)
   by_cases hid : (l[k].id != x.id) = true
   ·
    have hnext : without x (l.take k) ++ [l[k]] = without x (l.take (k + 1)) := filter_pos (otherResv x) hlt (by simp only [otherResv, hid, Bool.true_or])
    have HN := Lib.hid hnext; clear hnext
    go_wp2_with (at_builtin; refine app1 E Resv.flen Resv.one rfl _ _ rfl l[k] rfl (OwnF.ext hown (((Ext.refl _).alloc _).alloc _)) rfl (by first | exact blk_list l[k].f (blk_new2 wr _ _) | exact fun j u hu => hu) (by omega) (by unfold maxLen; omega) (by exact ((hx.alloc _).alloc _).size) ?_)
    intro v' w' ho' hg'
    have hx' := ((hx.alloc _).alloc _).app hg' hown (Nat.le_refl _)
    rw [HN.out] at ho'
    clear hg'
    go_wp2
    go_roundw
    case rel => exact ⟨k + 1, by omega, by go_num, ho', hx'⟩
    case measure => simp [intOf]; omega
   ·
    have hid2 : (l[k].id != x.id) = false := by simpa using hid
    clear hid
    go_wp2_with fail
    refine (i_at l[k] _ _ _).mono ?_
    rintro e w1 ⟨rfl, h1⟩
    have hb1 := h1.block (blk_new wr _)
    have hcb1 := blk5 hb1
    have hx1 := (hx.alloc _).trans h1
    cases hat : resvAt l[k] x.asn x.iface
    ·
     have hnext : without x (l.take k) ++ [l[k]] = without x (l.take (k + 1)) := filter_pos (otherResv x) hlt (by simp only [otherResv, hat, Bool.not_false, Bool.or_true])
     have HN := Lib.hid hnext; clear hnext
     have hown1 := hown.ext (((Ext.refl _).alloc _).trans h1)
     go_wp2_with (at_builtin; refine app1 E Resv.flen Resv.one rfl _ _ rfl l[k] rfl (OwnF.ext hown1 ((Ext.refl _).alloc _)) rfl (by first | exact blk_list l[k].f (blk_new w1 _) | exact fun j u hu => hu) (by omega) (by unfold maxLen; omega) (by exact (hx1.alloc _).size) ?_)
     intro v' w' ho' hg'
     have hx' := (hx1.alloc _).app hg' hown1 (Nat.le_refl _)
     rw [HN.out] at ho'
     clear hg'
     go_wp2
     go_roundw
     case rel => exact ⟨k + 1, by omega, by go_num, ho', hx'⟩
     case measure => simp [intOf]; omega
    ·
     have hnext : without x (l.take k) = without x (l.take (k + 1)) := filter_neg (otherResv x) hlt (by simp only [otherResv, hid2, hat, Bool.not_true, Bool.or_false]; decide)
     have HN := Lib.hid hnext; clear hnext
     have hown1 := hown.ext (((Ext.refl _).alloc _).trans h1)
     rw [HN.out] at hown1
     go_wp2_with fail
     go_roundw
     case rel => exact ⟨k + 1, by omega, by go_num, hown1, hx1⟩
     case measure => simp [intOf]; omega
  ·
   rw [List.take_of_length_le (by omega)] at hown
   go_wp2_with fail
   have hrd := OwnF.rd (hf := Resv.flen) hown
   obtain ⟨oo, co, rfl, hso⟩ := hrd.shape
   have hwl := without_le x l
   cases hvx : validResv x
   ·
    refine wp_region_ext (by kernel_rfl) (by kernel_rfl) ?_
    have q0 := ExtW.cell (hcb.1)
    have q1 := ExtW.cell (hcb.2.1)
    have q2 := ExtW.cell (hcb.2.2.1)
    have q3 := ExtW.cell (hcb.2.2.2.1)
    have q4 := ExtW.cell (hcb.2.2.2.2)
    repeat (first | go_big_quiet_step (((first | (go_at_call 198; exact Calls.ext_of (i_ValidReservation x _)) | (go_at_call 199; exact Calls.ext_of (i_ReservedRate (without x l) _ _ _ _ _ (hrd.ext (ExtW.h _))))))) | quiet_step (((first | (go_at_call 198; exact Calls.ext_of (i_ValidReservation x _)) | (go_at_call 199; exact Calls.ext_of (i_ReservedRate (without x l) _ _ _ _ _ (hrd.ext (ExtW.h _))))))))
    refine wpQuiet_nil ?_
    intro w9 hw9
    have h9 : Ext wr w9 := by obtain ⟨y, rfl⟩ := hw9; exact y.h
    clear hw9 q0 q1 q2 q3 q4
    have hno : refused l x c now = true := by simp [refused, hvx]
    have HA := Lib.hid (admit_no hno)
    clear hno
    go_wp2_with fail
    refine (i_copyReservations l _ _ (hv.ext (hx0.trans (hx.trans h9))) (by omega)).mono ?_
    rintro e w8 ⟨v8, rfl, o8, h8⟩
    go_wp2_with fail
    go_ret2
    rw [HA.out]
    exact ⟨v8, rfl, o8.mono (hx0.trans (hx.trans h9)).size, hx0.trans (hx.trans (h9.trans h8))⟩
   ·
    by_cases htl : x.till < now
    ·
     refine wp_region_ext (by kernel_rfl) (by kernel_rfl) ?_
     have q0 := ExtW.cell (hcb.1)
     have q1 := ExtW.cell (hcb.2.1)
     have q2 := ExtW.cell (hcb.2.2.1)
     have q3 := ExtW.cell (hcb.2.2.2.1)
     have q4 := ExtW.cell (hcb.2.2.2.2)
     repeat (first | go_big_quiet_step (((first | (go_at_call 198; exact Calls.ext_of (i_ValidReservation x _)) | (go_at_call 199; exact Calls.ext_of (i_ReservedRate (without x l) _ _ _ _ _ (hrd.ext (ExtW.h _))))))) | quiet_step (((first | (go_at_call 198; exact Calls.ext_of (i_ValidReservation x _)) | (go_at_call 199; exact Calls.ext_of (i_ReservedRate (without x l) _ _ _ _ _ (hrd.ext (ExtW.h _))))))))
     refine wpQuiet_nil ?_
     intro w9 hw9
     have h9 : Ext wr w9 := by obtain ⟨y, rfl⟩ := hw9; exact y.h
     clear hw9 q0 q1 q2 q3 q4
     have hno : refused l x c now = true := by simp [refused, htl]
     have HA := Lib.hid (admit_no hno)
     clear hno
     go_wp2_with fail
     refine (i_copyReservations l _ _ (hv.ext (hx0.trans (hx.trans h9))) (by omega)).mono ?_
     rintro e w8 ⟨v8, rfl, o8, h8⟩
     go_wp2_with fail
     go_ret2
     rw [HA.out]
     exact ⟨v8, rfl, o8.mono (hx0.trans (hx.trans h9)).size, hx0.trans (hx.trans (h9.trans h8))⟩
    ·
     have htl2 : now ≤ x.till := by omega
     have htl3 : decide (x.till < now) = false := by simp [htl]
     by_cases htm : c < wrap64 (resvdRate (without x l) x.asn x.iface now + x.rate)
     ·
      have htm3 : tooMuch l x c now = true := by simp [tooMuch, htm]
      have Htm := Lib.hid htm3; clear htm3
      refine wp_region_ext (by kernel_rfl) (by kernel_rfl) ?_
      have q0 := ExtW.cell (hcb.1)
      have q1 := ExtW.cell (hcb.2.1)
      have q2 := ExtW.cell (hcb.2.2.1)
      have q3 := ExtW.cell (hcb.2.2.2.1)
      have q4 := ExtW.cell (hcb.2.2.2.2)
      repeat (first | go_big_quiet_step (((first | (go_at_call 198; exact Calls.ext_of (i_ValidReservation x _)) | (go_at_call 199; exact Calls.ext_of (i_ReservedRate (without x l) _ _ _ _ _ (hrd.ext (ExtW.h _))))))) | quiet_step (((first | (go_at_call 198; exact Calls.ext_of (i_ValidReservation x _)) | (go_at_call 199; exact Calls.ext_of (i_ReservedRate (without x l) _ _ _ _ _ (hrd.ext (ExtW.h _))))))))
      refine wpQuiet_nil ?_
      intro w9 hw9
      have h9 : Ext wr w9 := by obtain ⟨y, rfl⟩ := hw9; exact y.h
      clear hw9 q0 q1 q2 q3 q4
      have hno : refused l x c now = true := by simp [refused, Htm.out]
      have HA := Lib.hid (admit_no hno)
      clear hno
      go_wp2_with fail
      refine (i_copyReservations l _ _ (hv.ext (hx0.trans (hx.trans h9))) (by omega)).mono ?_
      rintro e w8 ⟨v8, rfl, o8, h8⟩
      go_wp2_with fail
      go_ret2
      rw [HA.out]
      exact ⟨v8, rfl, o8.mono (hx0.trans (hx.trans h9)).size, hx0.trans (hx.trans (h9.trans h8))⟩
     ·
      have htm2 : wrap64 (resvdRate (without x l) x.asn x.iface now + x.rate) ≤ c := by omega
      have htm3 : tooMuch l x c now = false := by simp [tooMuch]; omega
      have Htm := Lib.hid htm3; clear htm3
      by_cases h40 : 40 ≤ (without x l).length
      ·
       have h40i : (40 : Int) ≤ ((without x l).length : Int) := by omega
       refine wp_region_ext (by kernel_rfl) (by kernel_rfl) ?_
       have q0 := ExtW.cell (hcb.1)
       have q1 := ExtW.cell (hcb.2.1)
       have q2 := ExtW.cell (hcb.2.2.1)
       have q3 := ExtW.cell (hcb.2.2.2.1)
       have q4 := ExtW.cell (hcb.2.2.2.2)
       repeat (first | go_big_quiet_step (((first | (go_at_call 198; exact Calls.ext_of (i_ValidReservation x _)) | (go_at_call 199; exact Calls.ext_of (i_ReservedRate (without x l) _ _ _ _ _ (hrd.ext (ExtW.h _))))))) | quiet_step (((first | (go_at_call 198; exact Calls.ext_of (i_ValidReservation x _)) | (go_at_call 199; exact Calls.ext_of (i_ReservedRate (without x l) _ _ _ _ _ (hrd.ext (ExtW.h _))))))))
       refine wpQuiet_nil ?_
       intro w9 hw9
       have h9 : Ext wr w9 := by obtain ⟨y, rfl⟩ := hw9; exact y.h
       clear hw9 q0 q1 q2 q3 q4
       have hno : refused l x c now = true := by simp [refused, h40]
       have HA := Lib.hid (admit_no hno)
       clear hno
       go_wp2_with fail
       refine (i_copyReservations l _ _ (hv.ext (hx0.trans (hx.trans h9))) (by omega)).mono ?_
       rintro e w8 ⟨v8, rfl, o8, h8⟩
       go_wp2_with fail
       go_ret2
       rw [HA.out]
       exact ⟨v8, rfl, o8.mono (hx0.trans (hx.trans h9)).size, hx0.trans (hx.trans (h9.trans h8))⟩
      ·
       have h40i : ((without x l).length : Int) < 40 := by omega
       have h40j : decide ((40 : Int) ≤ ((without x l).length : Int)) = false := by simp; omega
       refine wp_region_ext (by kernel_rfl) (by kernel_rfl) ?_
       have q0 := ExtW.cell (hcb.1)
       have q1 := ExtW.cell (hcb.2.1)
       have q2 := ExtW.cell (hcb.2.2.1)
       have q3 := ExtW.cell (hcb.2.2.2.1)
       have q4 := ExtW.cell (hcb.2.2.2.2)
       repeat (first | go_big_quiet_step (((first | (go_at_call 198; exact Calls.ext_of (i_ValidReservation x _)) | (go_at_call 199; exact Calls.ext_of (i_ReservedRate (without x l) _ _ _ _ _ (hrd.ext (ExtW.h _))))))) | quiet_step (((first | (go_at_call 198; exact Calls.ext_of (i_ValidReservation x _)) | (go_at_call 199; exact Calls.ext_of (i_ReservedRate (without x l) _ _ _ _ _ (hrd.ext (ExtW.h _))))))))
       refine wpQuiet_nil ?_
       intro w9 hw9
       have h9 : Ext wr w9 := by obtain ⟨y, rfl⟩ := hw9; exact y.h
       clear hw9 q0 q1 q2 q3 q4
       have hyes : refused l x c now = false := by simp [refused, hvx, htl3, Htm.out]; omega
       have HA := Lib.hid (admit_yes hyes)
       clear hyes
       have hcb9 := blk5 (h9.block HBr.out)
       go_wp2_with (at_builtin; refine app1 E Resv.flen Resv.one rfl _ _ rfl x rfl (OwnF.ext hown (h9.alloc _)) rfl (by first | exact blk_list x.f (blk_new w9 _) | exact fun j u hu => hu) (by omega) (by unfold maxLen; omega) (by first | exact ((hx.trans h9).alloc _).size | (have := (hx.trans h9).size; omega)) ?_)
       intro v' w' ho' hg'
       have hx' := ((hx.trans h9).alloc _).app hg' hown (Nat.le_refl _)
       clear hg'
       go_wp2
       go_ret2
       rw [HA.out]
       exact ⟨v', rfl, ho'.mono hx0.size, hx0.trans hx'⟩
set_option maxRecDepth 100000 in
set_option maxHeartbeats 40000000 in
theorem s_l32Without (l : List Resv) (v : Value) (x : Resv) (w : World) (hv : RdS Resv.rep w v l) (hl : l.length ≤ 1048576) :
  Calls Try.prog 200 #[v, .agg #[.int .i64 x.id, .int .i64 x.asn, .int .i64 x.iface, .int .i64 x.rate, .int .i64 x.till]] w fun e w' => ∃ v', e = .returned v' ∧ OwnF Resv.f 5 w.heap.size 171 w' v' (without x l) ∧ Ext w w' := by
 obtain ⟨o, cap, rfl, hsm⟩ := hv.shape
 obtain ⟨E⟩ := elemResv
 go_enter Try.func200, Try.ntmps200
 go_wp2
 have hB := blk_new w (.cells #[.int .i64 x.id, .int .i64 x.asn, .int .i64 x.iface, .int .i64 x.rate, .int .i64 x.till] 171)
 have hx0 := (Ext.refl w).alloc (.cells #[.int .i64 x.id, .int .i64 x.asn, .int .i64 x.iface, .int .i64 x.rate, .int .i64 x.till] 171)
 have hown0 := OwnF.empty Resv.f 5 (w.alloc (.cells #[.int .i64 x.id, .int .i64 x.asn, .int .i64 x.iface, .int .i64 x.rate, .int .i64 x.till] 171)).heap.size 171 (w.alloc (.cells #[.int .i64 x.id, .int .i64 x.asn, .int .i64 x.iface, .int .i64 x.rate, .int .i64 x.till] 171)) (Nat.le_refl _)
 rw [nblk_alloc] at hown0
 go_loopw [5, 6] (fun out i wr => ∃ (k : Nat), k ≤ l.length ∧ i = .int .i64 k ∧ OwnF Resv.f 5 (w.heap.size + 1) 171 wr out (without x (l.take k)) ∧ Ext (w.alloc (.cells #[.int .i64 x.id, .int .i64 x.asn, .int .i64 x.iface, .int .i64 x.rate, .int .i64 x.till] 171)) wr) (fun _ i _ => l.length - (intOf i).toNat)
 case atStart => exact ⟨0, Nat.zero_le _, rfl, hown0, (Ext.refl _).alloc _⟩
 case round =>
  clear hown0
  obtain ⟨k, hk, rfl, hown, hx⟩ := hrel
  have hbr := hx.block hB
  have hcb := blk5 hbr
  have hsz : w.heap.size + 1 ≤ wr.heap.size := by have := hx.size; rw [nblk_alloc] at this; exact this
  clear hbr
  by_cases hlt : k < l.length
  ·
   obtain ⟨b, off, rfl, hc⟩ := Resv.at (hv.ext (hx0.trans hx)) k hlt
   have hln : (without x (l.take k)).length ≤ k := Nat.le_trans (without_le _ _) (List.length_take_le _ _)
   have ht : otherResv x l[k] = ((l[k].id != x.id) || (l[k].asn != x.asn) || (l[k].iface != x.iface)) := by
    simp only [otherResv, resvAt, Bool.not_and, Bool.or_assoc, bne]
   have HT := Lib.hid ht; clear ht
   have hlk0 : (0 : Int) ≤ (k : Int) := Int.natCast_nonneg _
   have hlk1 : (k : Int) < (l.length : Int) := by omega
   cases h1 : (l[k].id != x.id)
   ·
    cases h2 : (l[k].asn != x.asn)
    ·
     cases h3 : (l[k].iface != x.iface)
     ·
      have hnext : without x (l.take k) = without x (l.take (k + 1)) := filter_neg (otherResv x) hlt (by rw [HT.out, h1, h2, h3]; decide)
      rw [hnext] at hown
      clear hnext
      go_wp2_with fail
      refine wp_region_ext (by kernel_rfl) (by kernel_rfl) ?_
      have q0 := ExtW.cell (hcb.1)
      have q1 := ExtW.cell (hcb.2.1)
      have q2 := ExtW.cell (hcb.2.2.1)
      have q3 := ExtW.cell (hcb.2.2.2.1)
      have q4 := ExtW.cell (hcb.2.2.2.2)
      have q5 := ExtW.cell (hc.1)
      have q6 := ExtW.cell (hc.2.1)
      have q7 := ExtW.cell (hc.2.2.1)
      have q8 := ExtW.cell (hc.2.2.2.1)
      have q9 := ExtW.cell (hc.2.2.2.2)
      repeat (first | go_big_quiet_step ((fail)) | quiet_step ((fail)))
      refine wpQuiet_nil ?_
      intro w9 hw9
      have h9 : Ext wr w9 := by obtain ⟨y, rfl⟩ := hw9; exact y.h
      clear hw9 q0 q1 q2 q3 q4 q5 q6 q7 q8 q9
      go_wp2_with fail
      go_roundw
      case rel => exact ⟨k + 1, by omega, by go_num, hown.ext h9, hx.trans h9⟩
      case measure => simp [intOf]; omega
     ·
      have hnext : without x (l.take k) ++ [l[k]] = without x (l.take (k + 1)) := filter_pos (otherResv x) hlt (by rw [HT.out, h1, h2, h3]; rfl)
      have HN := Lib.hid hnext; clear hnext
      go_wp2_with fail
      refine wp_region_ext (by kernel_rfl) (by kernel_rfl) ?_
      have q0 := ExtW.cell (hcb.1)
      have q1 := ExtW.cell (hcb.2.1)
      have q2 := ExtW.cell (hcb.2.2.1)
      have q3 := ExtW.cell (hcb.2.2.2.1)
      have q4 := ExtW.cell (hcb.2.2.2.2)
      have q5 := ExtW.cell (hc.1)
      have q6 := ExtW.cell (hc.2.1)
      have q7 := ExtW.cell (hc.2.2.1)
      have q8 := ExtW.cell (hc.2.2.2.1)
      have q9 := ExtW.cell (hc.2.2.2.2)
      repeat (first | go_big_quiet_step ((fail)) | quiet_step ((fail)))
      refine wpQuiet_nil ?_
      intro w9 hw9
      have h9 : Ext wr w9 := by obtain ⟨y, rfl⟩ := hw9; exact y.h
      clear hw9 q0 q1 q2 q3 q4 q5 q6 q7 q8 q9
      have hc9 := Resv.at_ext h9 hc
      have hown9 := hown.ext h9
      go_wp2_with (at_builtin; refine app1 E Resv.flen Resv.one rfl _ _ rfl l[k] rfl (OwnF.ext hown9 ((Ext.refl _).alloc _)) rfl (by first | exact blk_list l[k].f (blk_new w9 _) | exact fun j u hu => hu) (by omega) (by unfold maxLen; omega) (by exact Nat.le_trans (Nat.le_of_eq (nblk_alloc w _).symm) ((hx.trans h9).alloc _).size) ?_)
      intro v' w' ho' hg'
      have hx' := ((hx.trans h9).alloc _).app hg' hown9 (Nat.le_of_eq (nblk_alloc w _))
      rw [HN.out] at ho'
      clear hg'
      go_wp2
      go_roundw
      case rel => exact ⟨k + 1, by omega, by go_num, ho', hx'⟩
      case measure => simp [intOf]; omega
    ·
     have hnext : without x (l.take k) ++ [l[k]] = without x (l.take (k + 1)) := filter_pos (otherResv x) hlt (by rw [HT.out, h1, h2]; rfl)
     have HN := Lib.hid hnext; clear hnext
     go_wp2_with fail
     refine wp_region_ext (by kernel_rfl) (by kernel_rfl) ?_
     have q0 := ExtW.cell (hcb.1)
     have q1 := ExtW.cell (hcb.2.1)
     have q2 := ExtW.cell (hcb.2.2.1)
     have q3 := ExtW.cell (hcb.2.2.2.1)
     have q4 := ExtW.cell (hcb.2.2.2.2)
     have q5 := ExtW.cell (hc.1)
     have q6 := ExtW.cell (hc.2.1)
     have q7 := ExtW.cell (hc.2.2.1)
     have q8 := ExtW.cell (hc.2.2.2.1)
     have q9 := ExtW.cell (hc.2.2.2.2)
     repeat (first | go_big_quiet_step ((fail)) | quiet_step ((fail)))
     refine wpQuiet_nil ?_
     intro w9 hw9
     have h9 : Ext wr w9 := by obtain ⟨y, rfl⟩ := hw9; exact y.h
     clear hw9 q0 q1 q2 q3 q4 q5 q6 q7 q8 q9
     have hc9 := Resv.at_ext h9 hc
     have hown9 := hown.ext h9
     go_wp2_with (at_builtin; refine app1 E Resv.flen Resv.one rfl _ _ rfl l[k] rfl (OwnF.ext hown9 ((Ext.refl _).alloc _)) rfl (by first | exact blk_list l[k].f (blk_new w9 _) | exact fun j u hu => hu) (by omega) (by unfold maxLen; omega) (by exact Nat.le_trans (Nat.le_of_eq (nblk_alloc w _).symm) ((hx.trans h9).alloc _).size) ?_)
     intro v' w' ho' hg'
     have hx' := ((hx.trans h9).alloc _).app hg' hown9 (Nat.le_of_eq (nblk_alloc w _))
     rw [HN.out] at ho'
     clear hg'
     go_wp2
     go_roundw
     case rel => exact ⟨k + 1, by omega, by go_num, ho', hx'⟩
     case measure => simp [intOf]; omega
   ·
    have hnext : without x (l.take k) ++ [l[k]] = without x (l.take (k + 1)) := filter_pos (otherResv x) hlt (by rw [HT.out, h1]; rfl)
    have HN := Lib.hid hnext; clear hnext
    go_wp2_with fail
    refine wp_region_ext (by kernel_rfl) (by kernel_rfl) ?_
    have q0 := ExtW.cell (hcb.1)
    have q1 := ExtW.cell (hcb.2.1)
    have q2 := ExtW.cell (hcb.2.2.1)
    have q3 := ExtW.cell (hcb.2.2.2.1)
    have q4 := ExtW.cell (hcb.2.2.2.2)
    have q5 := ExtW.cell (hc.1)
    have q6 := ExtW.cell (hc.2.1)
    have q7 := ExtW.cell (hc.2.2.1)
    have q8 := ExtW.cell (hc.2.2.2.1)
    have q9 := ExtW.cell (hc.2.2.2.2)
    repeat (first | go_big_quiet_step ((fail)) | quiet_step ((fail)))
    refine wpQuiet_nil ?_
    intro w9 hw9
    have h9 : Ext wr w9 := by obtain ⟨y, rfl⟩ := hw9; exact y.h
    clear hw9 q0 q1 q2 q3 q4 q5 q6 q7 q8 q9
    have hc9 := Resv.at_ext h9 hc
    have hown9 := hown.ext h9
    go_wp2_with (at_builtin; refine app1 E Resv.flen Resv.one rfl _ _ rfl l[k] rfl (OwnF.ext hown9 ((Ext.refl _).alloc _)) rfl (by first | exact blk_list l[k].f (blk_new w9 _) | exact fun j u hu => hu) (by omega) (by unfold maxLen; omega) (by exact Nat.le_trans (Nat.le_of_eq (nblk_alloc w _).symm) ((hx.trans h9).alloc _).size) ?_)
    intro v' w' ho' hg'
    have hx' := ((hx.trans h9).alloc _).app hg' hown9 (Nat.le_of_eq (nblk_alloc w _))
    rw [HN.out] at ho'
    clear hg'
    go_wp2
    go_roundw
    case rel => exact ⟨k + 1, by omega, by go_num, ho', hx'⟩
    case measure => simp [intOf]; omega
  ·
   go_wp2
   go_ret
   rw [List.take_of_length_le (by omega)] at hown
   exact ⟨_, rfl, hown.mono (by omega), hx0.trans hx⟩
set_option maxRecDepth 100000 in
set_option maxHeartbeats 40000000 in
theorem s_Admit (l : List Resv) (v : Value) (x : Resv) (c now : Int) (w : World) (hv : RdS Resv.rep w v l) (hl : l.length ≤ 1048576) :
  Calls Try.prog 143 #[v, .agg #[.int .i64 x.id, .int .i64 x.asn, .int .i64 x.iface, .int .i64 x.rate, .int .i64 x.till], .int .i64 c, .int .i64 now] w fun e w' => ∃ v', e = .returned (.tuple #[v', .bool (admit l x c now).2]) ∧ OwnF Resv.f 5 w.heap.size 171 w' v' (admit l x c now).1 ∧ Ext w w' := by
 obtain ⟨o, cap, rfl, hsm⟩ := hv.shape
 obtain ⟨E⟩ := elemResv
 go_enter Try.func143, Try.ntmps143
 go_wp2_with fail
 have hB := blk_new w (.cells #[.int .i64 x.id, .int .i64 x.asn, .int .i64 x.iface, .int .i64 x.rate, .int .i64 x.till] 171)
 have hx0 := (Ext.refl w).alloc (.cells #[.int .i64 x.id, .int .i64 x.asn, .int .i64 x.iface, .int .i64 x.rate, .int .i64 x.till] 171)
 generalize w.alloc (.cells #[.int .i64 x.id, .int .i64 x.asn, .int .i64 x.iface, .int .i64 x.rate, .int .i64 x.till] 171) = W0 at hB hx0 ⊢
 refine (s_l32Without l _ x _ (hv.ext hx0) hl).mono ?_
 rintro e wr ⟨vo, rfl, hown, hx⟩
 have hbr := hx.block hB
 have hcb := blk5 hbr
 have HBr := Lib.hid hbr; clear hbr hB
 have hrd := OwnF.rd (hf := Resv.flen) hown
 obtain ⟨oo, co, rfl, hso⟩ := hrd.shape
 go_wp2_with fail
 have hwl := without_le x l
 cases hvx : validResv x
 ·
  refine wp_region_ext (by kernel_rfl) (by kernel_rfl) ?_
  have q0 := ExtW.cell (hcb.1)
  have q1 := ExtW.cell (hcb.2.1)
  have q2 := ExtW.cell (hcb.2.2.1)
  have q3 := ExtW.cell (hcb.2.2.2.1)
  have q4 := ExtW.cell (hcb.2.2.2.2)
  repeat (first | go_big_quiet_step (((first | (go_at_call 201; exact Calls.ext_of (s_ValidReservation x _)) | (go_at_call 202; exact Calls.ext_of (s_ReservedRate (without x l) _ _ _ _ _ (hrd.ext (ExtW.h _))))))) | quiet_step (((first | (go_at_call 201; exact Calls.ext_of (s_ValidReservation x _)) | (go_at_call 202; exact Calls.ext_of (s_ReservedRate (without x l) _ _ _ _ _ (hrd.ext (ExtW.h _))))))))
  refine wpQuiet_nil ?_
  intro w9 hw9
  have h9 : Ext wr w9 := by obtain ⟨y, rfl⟩ := hw9; exact y.h
  clear hw9 q0 q1 q2 q3 q4
  have hno : refused l x c now = true := by simp [refused, hvx]
  have HA := Lib.hid (admit_no hno)
  clear hno
  go_wp2_with (at_builtin; refine appS E Resv.flen Resv.one rfl _ _ rfl l rfl (OwnF.empty Resv.f 5 w9.heap.size _ w9 (Nat.le_refl _)) rfl (hv.ext ((hx0.trans (hx.trans h9)).alloc _)) (by first | omega | (simp; omega)) (by first | (unfold maxLen; omega) | (simp [maxLen]; omega)) (by simp) ?_)
  intro v' w' ho' hg'
  have hx' : Ext w9 w' := ((Ext.refl w9).alloc _).app hg' (OwnF.empty Resv.f 5 w9.heap.size 171 w9 (Nat.le_refl _)) (Nat.le_refl _)
  try rw [List.nil_append] at ho'
  clear hg'
  go_wp2
  go_ret2
  rw [HA.out]
  exact ⟨v', rfl, ho'.mono (hx0.trans (hx.trans h9)).size, hx0.trans (hx.trans (h9.trans hx'))⟩
 ·
  by_cases htl : x.till < now
  ·
   refine wp_region_ext (by kernel_rfl) (by kernel_rfl) ?_
   have q0 := ExtW.cell (hcb.1)
   have q1 := ExtW.cell (hcb.2.1)
   have q2 := ExtW.cell (hcb.2.2.1)
   have q3 := ExtW.cell (hcb.2.2.2.1)
   have q4 := ExtW.cell (hcb.2.2.2.2)
   repeat (first | go_big_quiet_step (((first | (go_at_call 201; exact Calls.ext_of (s_ValidReservation x _)) | (go_at_call 202; exact Calls.ext_of (s_ReservedRate (without x l) _ _ _ _ _ (hrd.ext (ExtW.h _))))))) | quiet_step (((first | (go_at_call 201; exact Calls.ext_of (s_ValidReservation x _)) | (go_at_call 202; exact Calls.ext_of (s_ReservedRate (without x l) _ _ _ _ _ (hrd.ext (ExtW.h _))))))))
   refine wpQuiet_nil ?_
   intro w9 hw9
   have h9 : Ext wr w9 := by obtain ⟨y, rfl⟩ := hw9; exact y.h
   clear hw9 q0 q1 q2 q3 q4
   have hno : refused l x c now = true := by simp [refused, htl]
   have HA := Lib.hid (admit_no hno)
   clear hno
   go_wp2_with (at_builtin; refine appS E Resv.flen Resv.one rfl _ _ rfl l rfl (OwnF.empty Resv.f 5 w9.heap.size _ w9 (Nat.le_refl _)) rfl (hv.ext ((hx0.trans (hx.trans h9)).alloc _)) (by first | omega | (simp; omega)) (by first | (unfold maxLen; omega) | (simp [maxLen]; omega)) (by simp) ?_)
   intro v' w' ho' hg'
   have hx' : Ext w9 w' := ((Ext.refl w9).alloc _).app hg' (OwnF.empty Resv.f 5 w9.heap.size 171 w9 (Nat.le_refl _)) (Nat.le_refl _)
   try rw [List.nil_append] at ho'
   clear hg'
   go_wp2
   go_ret2
   rw [HA.out]
   exact ⟨v', rfl, ho'.mono (hx0.trans (hx.trans h9)).size, hx0.trans (hx.trans (h9.trans hx'))⟩
  ·
   have htl2 : now ≤ x.till := by omega
   have htl3 : decide (x.till < now) = false := by simp [htl]
   by_cases htm : c < wrap64 (resvdRate (without x l) x.asn x.iface now + x.rate)
   ·
    have htm3 : tooMuch l x c now = true := by simp [tooMuch, htm]
    have Htm := Lib.hid htm3; clear htm3
    refine wp_region_ext (by kernel_rfl) (by kernel_rfl) ?_
    have q0 := ExtW.cell (hcb.1)
    have q1 := ExtW.cell (hcb.2.1)
    have q2 := ExtW.cell (hcb.2.2.1)
    have q3 := ExtW.cell (hcb.2.2.2.1)
    have q4 := ExtW.cell (hcb.2.2.2.2)
    repeat (first | go_big_quiet_step (((first | (go_at_call 201; exact Calls.ext_of (s_ValidReservation x _)) | (go_at_call 202; exact Calls.ext_of (s_ReservedRate (without x l) _ _ _ _ _ (hrd.ext (ExtW.h _))))))) | quiet_step (((first | (go_at_call 201; exact Calls.ext_of (s_ValidReservation x _)) | (go_at_call 202; exact Calls.ext_of (s_ReservedRate (without x l) _ _ _ _ _ (hrd.ext (ExtW.h _))))))))
    refine wpQuiet_nil ?_
    intro w9 hw9
    have h9 : Ext wr w9 := by obtain ⟨y, rfl⟩ := hw9; exact y.h
    clear hw9 q0 q1 q2 q3 q4
    have hno : refused l x c now = true := by simp [refused, Htm.out]
    have HA := Lib.hid (admit_no hno)
    clear hno
    go_wp2_with (at_builtin; refine appS E Resv.flen Resv.one rfl _ _ rfl l rfl (OwnF.empty Resv.f 5 w9.heap.size _ w9 (Nat.le_refl _)) rfl (hv.ext ((hx0.trans (hx.trans h9)).alloc _)) (by first | omega | (simp; omega)) (by first | (unfold maxLen; omega) | (simp [maxLen]; omega)) (by simp) ?_)
    intro v' w' ho' hg'
    have hx' : Ext w9 w' := ((Ext.refl w9).alloc _).app hg' (OwnF.empty Resv.f 5 w9.heap.size 171 w9 (Nat.le_refl _)) (Nat.le_refl _)
    try rw [List.nil_append] at ho'
    clear hg'
    go_wp2
    go_ret2
    rw [HA.out]
    exact ⟨v', rfl, ho'.mono (hx0.trans (hx.trans h9)).size, hx0.trans (hx.trans (h9.trans hx'))⟩
   ·
    have htm2 : wrap64 (resvdRate (without x l) x.asn x.iface now + x.rate) ≤ c := by omega
    have htm3 : tooMuch l x c now = false := by simp [tooMuch]; omega
    have Htm := Lib.hid htm3; clear htm3
    by_cases h40 : 40 ≤ (without x l).length
    ·
     have h40i : (40 : Int) ≤ ((without x l).length : Int) := by omega
     refine wp_region_ext (by kernel_rfl) (by kernel_rfl) ?_
     have q0 := ExtW.cell (hcb.1)
     have q1 := ExtW.cell (hcb.2.1)
     have q2 := ExtW.cell (hcb.2.2.1)
     have q3 := ExtW.cell (hcb.2.2.2.1)
     have q4 := ExtW.cell (hcb.2.2.2.2)
     repeat (first | go_big_quiet_step (((first | (go_at_call 201; exact Calls.ext_of (s_ValidReservation x _)) | (go_at_call 202; exact Calls.ext_of (s_ReservedRate (without x l) _ _ _ _ _ (hrd.ext (ExtW.h _))))))) | quiet_step (((first | (go_at_call 201; exact Calls.ext_of (s_ValidReservation x _)) | (go_at_call 202; exact Calls.ext_of (s_ReservedRate (without x l) _ _ _ _ _ (hrd.ext (ExtW.h _))))))))
     refine wpQuiet_nil ?_
     intro w9 hw9
     have h9 : Ext wr w9 := by obtain ⟨y, rfl⟩ := hw9; exact y.h
     clear hw9 q0 q1 q2 q3 q4
     have hno : refused l x c now = true := by simp [refused, h40]
     have HA := Lib.hid (admit_no hno)
     clear hno
     go_wp2_with (at_builtin; refine appS E Resv.flen Resv.one rfl _ _ rfl l rfl (OwnF.empty Resv.f 5 w9.heap.size _ w9 (Nat.le_refl _)) rfl (hv.ext ((hx0.trans (hx.trans h9)).alloc _)) (by first | omega | (simp; omega)) (by first | (unfold maxLen; omega) | (simp [maxLen]; omega)) (by simp) ?_)
     intro v' w' ho' hg'
     have hx' : Ext w9 w' := ((Ext.refl w9).alloc _).app hg' (OwnF.empty Resv.f 5 w9.heap.size 171 w9 (Nat.le_refl _)) (Nat.le_refl _)
     try rw [List.nil_append] at ho'
     clear hg'
     go_wp2
     go_ret2
     rw [HA.out]
     exact ⟨v', rfl, ho'.mono (hx0.trans (hx.trans h9)).size, hx0.trans (hx.trans (h9.trans hx'))⟩
    ·
     have h40i : ((without x l).length : Int) < 40 := by omega
     have h40j : decide ((40 : Int) ≤ ((without x l).length : Int)) = false := by simp; omega
     refine wp_region_ext (by kernel_rfl) (by kernel_rfl) ?_
     have q0 := ExtW.cell (hcb.1)
     have q1 := ExtW.cell (hcb.2.1)
     have q2 := ExtW.cell (hcb.2.2.1)
     have q3 := ExtW.cell (hcb.2.2.2.1)
     have q4 := ExtW.cell (hcb.2.2.2.2)
     repeat (first | go_big_quiet_step (((first | (go_at_call 201; exact Calls.ext_of (s_ValidReservation x _)) | (go_at_call 202; exact Calls.ext_of (s_ReservedRate (without x l) _ _ _ _ _ (hrd.ext (ExtW.h _))))))) | quiet_step (((first | (go_at_call 201; exact Calls.ext_of (s_ValidReservation x _)) | (go_at_call 202; exact Calls.ext_of (s_ReservedRate (without x l) _ _ _ _ _ (hrd.ext (ExtW.h _))))))))
     refine wpQuiet_nil ?_
     intro w9 hw9
     have h9 : Ext wr w9 := by obtain ⟨y, rfl⟩ := hw9; exact y.h
     clear hw9 q0 q1 q2 q3 q4
     have hyes : refused l x c now = false := by simp [refused, hvx, htl3, Htm.out]; omega
     have HA := Lib.hid (admit_yes hyes)
     clear hyes
     have hcb9 := blk5 (h9.block HBr.out)
     go_wp2_with (at_builtin; refine app1 E Resv.flen Resv.one rfl _ _ rfl x rfl (OwnF.ext hown (h9.alloc _)) rfl (by first | exact blk_list x.f (blk_new w9 _) | exact fun j u hu => hu) (by omega) (by unfold maxLen; omega) (by first | exact ((hx.trans h9).alloc _).size | (have := (hx.trans h9).size; omega)) ?_)
     intro v' w' ho' hg'
     have hx' := ((hx.trans h9).alloc _).app hg' hown (Nat.le_refl _)
     clear hg'
     go_wp2
     go_ret2
     rw [HA.out]
     exact ⟨v', rfl, ho'.mono hx0.size, hx0.trans hx'⟩
end
end Go.Proofs.Ytikbeiafobnblaa
