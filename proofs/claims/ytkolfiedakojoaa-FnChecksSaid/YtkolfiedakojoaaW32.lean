/- Contracts of the functions on reservations, program and reference. No condition but the bounds that each theorem names. -/
import Derived.Test.YtkolfiedakojoaaW31
import Derived.Test.YtkolfiedakojoaaApp
import Derived.Test.YtkolfiedakojoaaTyReservation
namespace Go.Proofs.Ytkolfiedakojoaa
open Go.ChangeShapes Go.WideShapes Go.ChangeAt Go.RowKit Go.Deep

def resvAt (r : Resv) (a i : Int) : Bool := (r.asn == a) && (r.iface == i)
def resvAtNow (r : Resv) (a i now : Int) : Bool := resvAt r a i && decide (now ≤ r.till)
def validResv (x : Resv) : Bool := inR x.id 1 100000 && inR x.rate 1 20 && validRev ⟨x.asn, x.iface, x.till⟩

set_option maxHeartbeats 400000 in
theorem i_at (r : Resv) (a i : Int) (w : World) :
    Calls Try.prog 164 #[.agg #[.int .i64 r.id, .int .i64 r.asn, .int .i64 r.iface, .int .i64 r.rate, .int .i64 r.till], .int .i64 a, .int .i64 i] w fun e w' => e = .returned (.bool (resvAt r a i)) ∧ Ext w w' := by
  go_enter Try.func164, Try.ntmps164
  go_wp2
  all_goals
    go_ret
    refine ⟨ret_bool ?_, (Ext.refl _).alloc _⟩
    simp [resvAt, *]
    try rfl
set_option maxHeartbeats 400000 in
theorem s_l32At (r : Resv) (a i now : Int) (w : World) :
    Calls Try.prog 171 #[.agg #[.int .i64 r.id, .int .i64 r.asn, .int .i64 r.iface, .int .i64 r.rate, .int .i64 r.till], .int .i64 a, .int .i64 i, .int .i64 now] w fun e w' => e = .returned (.bool (resvAtNow r a i now)) ∧ Ext w w' := by
  go_enter Try.func171, Try.ntmps171
  go_wp2
  all_goals
    go_ret
    refine ⟨ret_bool ?_, (Ext.refl _).alloc _⟩
    simp [resvAtNow, resvAt, *]
    try rfl
set_option maxHeartbeats 400000 in
theorem i_ValidReservation (x : Resv) (w : World) :
    Calls Try.prog 165 #[.agg #[.int .i64 x.id, .int .i64 x.asn, .int .i64 x.iface, .int .i64 x.rate, .int .i64 x.till]] w fun e w' => e = .returned (.bool (validResv x)) ∧ Ext w w' := by
  go_enter Try.func165, Try.ntmps165
  go_wp2_with (first | (go_at_call 112; refine (i_InRange _ _ _ _).mono ?_; rintro e w' ⟨rfl, rfl⟩) | (go_at_call 196; refine (i_ValidRevocation ⟨x.asn, x.iface, x.till⟩ _).mono ?_; rintro e w' ⟨rfl, hx⟩))
  all_goals
    go_ret
    refine ⟨ret_bool ?_, by first | exact ((Ext.refl _).alloc _).trans hx | exact (Ext.refl _).alloc _⟩
    simp only [validResv, *, Bool.true_and, Bool.false_and, Bool.and_false, Bool.and_true]
set_option maxHeartbeats 400000 in
theorem s_ValidReservation (x : Resv) (w : World) :
    Calls Try.prog 168 #[.agg #[.int .i64 x.id, .int .i64 x.asn, .int .i64 x.iface, .int .i64 x.rate, .int .i64 x.till]] w fun e w' => e = .returned (.bool (validResv x)) ∧ Ext w w' := by
  go_enter Try.func168, Try.ntmps168
  have hB := blk_new w (.cells #[.int .i64 x.id, .int .i64 x.asn, .int .i64 x.iface, .int .i64 x.rate, .int .i64 x.till] 116)
  have HB := Lib.hid hB; clear hB
  go_wp2_with (first | (go_at_call 114; refine (s_l1In _ _ _ _).mono ?_; rintro e w' ⟨rfl, rfl⟩) | (go_at_call 197; refine (s_ValidRevocation ⟨x.asn, x.iface, x.till⟩ _).mono ?_; rintro e w' ⟨rfl, hx⟩; have hcc := blk5 (hx.block HB.out)))
  all_goals
    go_ret
    refine ⟨ret_bool ?_, by first | exact ((Ext.refl _).alloc _).trans hx | exact (Ext.refl _).alloc _⟩
    simp only [validResv, *, Bool.true_and, Bool.false_and, Bool.and_false, Bool.and_true]

def sumRate (a i now : Int) : List Resv → Int → Int
  | [], n => n
  | r :: l, n => sumRate a i now l (if resvAtNow r a i now then wrap64 (n + r.rate) else n)
def resvdRate (l : List Resv) (a i now : Int) : Int := sumRate a i now l 0
def resvRate (l : List Resv) (id a i now : Int) : Int :=
  match l with
  | [] => 0
  | r :: l => if (r.id == id) && resvAtNow r a i now then r.rate else resvRate l id a i now
def freeRate (l : List Resv) (cap a i now : Int) : Int := max 0 (wrap64 (cap - resvdRate l a i now))

set_option maxHeartbeats 400000 in
theorem i_ReservedRate (l : List Resv) (v : Value) (a i now : Int) (w : World) (hv : RdS Resv.rep w v l) :
    Calls Try.prog 166 #[v, .int .i64 a, .int .i64 i, .int .i64 now] w fun e w' => e = .returned (.int .i64 (resvdRate l a i now)) ∧ Ext w w' := by
  obtain ⟨o, cap, rfl, hsm⟩ := hv.shape
  go_enter Try.func166, Try.ntmps166
  go_wp2
  go_loopw [9, 14] (fun n i' wr => ∃ k : Nat, k ≤ l.length ∧ i' = .int .i64 k ∧ (∃ m : Int, n = .int .i64 m ∧ sumRate a i now (l.drop k) m = resvdRate l a i now) ∧ Ext w wr) (fun _ i _ => l.length - (intOf i).toNat)
  case atStart => exact ⟨0, Nat.zero_le _, rfl, ⟨_, rfl, rfl⟩, Ext.refl _⟩
  case round =>
    obtain ⟨k, hk, rfl, ⟨m, rfl, hm⟩, hx⟩ := hrel
    have Hm := Lib.hid hm; clear hm
    by_cases hlt : k < l.length
    · obtain ⟨b, off, rfl, hc⟩ := Resv.at (hv.ext hx) k hlt
      have hstep : sumRate a i now (l.drop (k + 1)) (if resvAtNow l[k] a i now then wrap64 (m + l[k].rate) else m) = resvdRate l a i now := by
        rw [← Hm.out, List.drop_eq_getElem_cons hlt]; rfl
      have HS := Lib.hid hstep; clear hstep
      go_wp2_with fail
      refine (i_at l[k] _ _ _).mono ?_
      rintro e w1 ⟨rfl, h1⟩
      have hb := blk5 (h1.block (blk_new wr _))
      have hx1 := (hx.alloc _).trans h1
      go_wp2_with fail
      all_goals
        go_roundw
        case rel =>
          refine ⟨k + 1, by omega, by go_num, ⟨_, rfl, ?_⟩, hx1⟩
          rw [← HS.out]
          simp [resvAtNow, *]
          try (rw [if_neg (by omega)])
        case measure => simp [intOf]; omega
    · go_wp2
      go_ret
      refine ⟨?_, hx⟩
      rw [← Hm.out, List.drop_of_length_le (by omega)]; rfl
set_option maxHeartbeats 400000 in
theorem s_ReservedRate (l : List Resv) (v : Value) (a i now : Int) (w : World) (hv : RdS Resv.rep w v l) :
    Calls Try.prog 169 #[v, .int .i64 a, .int .i64 i, .int .i64 now] w fun e w' => e = .returned (.int .i64 (resvdRate l a i now)) ∧ Ext w w' := by
  obtain ⟨o, cap, rfl, hsm⟩ := hv.shape
  go_enter Try.func169, Try.ntmps169
  go_wp2
  go_loopw [9, 10] (fun n i' wr => ∃ k : Nat, k ≤ l.length ∧ i' = .int .i64 k ∧ (∃ m : Int, n = .int .i64 m ∧ sumRate a i now (l.drop k) m = resvdRate l a i now) ∧ Ext w wr) (fun _ i _ => l.length - (intOf i).toNat)
  case atStart => exact ⟨0, Nat.zero_le _, rfl, ⟨_, rfl, rfl⟩, Ext.refl _⟩
  case round =>
    obtain ⟨k, hk, rfl, ⟨m, rfl, hm⟩, hx⟩ := hrel
    have Hm := Lib.hid hm; clear hm
    by_cases hlt : k < l.length
    · obtain ⟨b, off, rfl, hcw⟩ := Resv.at hv k hlt
      have hc := Resv.at_ext hx hcw
      have hstep : sumRate a i now (l.drop (k + 1)) (if resvAtNow l[k] a i now then wrap64 (m + l[k].rate) else m) = resvdRate l a i now := by
        rw [← Hm.out, List.drop_eq_getElem_cons hlt]; rfl
      have HS := Lib.hid hstep; clear hstep
      go_wp2_with fail
      refine (s_l32At l[k] _ _ _ _).mono ?_
      rintro e w1 ⟨rfl, h1⟩
      have hx1 := hx.trans h1
      have hc1 := Resv.at_ext hx1 hcw
      go_wp2_with fail
      all_goals
        go_roundw
        case rel =>
          refine ⟨k + 1, by omega, by go_num, ⟨_, rfl, ?_⟩, hx1⟩
          rw [← HS.out]
          simp [*]
        case measure => simp [intOf]; omega
    · go_wp2
      go_ret
      refine ⟨?_, hx⟩
      rw [← Hm.out, List.drop_of_length_le (by omega)]; rfl

set_option maxHeartbeats 400000 in
theorem i_ReservationRate (l : List Resv) (v : Value) (id a i now : Int) (w : World) (hv : RdS Resv.rep w v l) :
    Calls Try.prog 95 #[v, .int .i64 id, .int .i64 a, .int .i64 i, .int .i64 now] w fun e w' => e = .returned (.int .i64 (resvRate l id a i now)) ∧ Ext w w' := by
  obtain ⟨o, cap, rfl, hsm⟩ := hv.shape
  go_enter Try.func95, Try.ntmps95
  go_wp2
  go_loopw [15] (fun i' wr => ∃ k : Nat, k ≤ l.length ∧ i' = .int .i64 k ∧ resvRate (l.drop k) id a i now = resvRate l id a i now ∧ Ext w wr) (fun i _ => l.length - (intOf i).toNat)
  case atStart => exact ⟨0, Nat.zero_le _, rfl, rfl, Ext.refl _⟩
  case round =>
    obtain ⟨k, hk, rfl, hm, hx⟩ := hrel
    have Hm := Lib.hid hm; clear hm
    by_cases hlt : k < l.length
    · obtain ⟨b, off, rfl, hcw⟩ := Resv.at hv k hlt
      have hc := Resv.at_ext hx hcw
      have hstep : (if (l[k].id == id) && resvAtNow l[k] a i now then l[k].rate else resvRate (l.drop (k + 1)) id a i now) = resvRate l id a i now := by
        rw [← Hm.out, List.drop_eq_getElem_cons hlt]; rfl
      have HS := Lib.hid hstep; clear hstep
      by_cases hid : l[k].id = id
      · have tid : (l[k].id == id) = true := by simp [hid]
        clear hid
        go_wp2_with fail
        refine (i_at l[k] _ _ _).mono ?_
        rintro e w1 ⟨rfl, h1⟩
        have hb := blk5 (h1.block (blk_new wr _))
        have hx1 := (hx.alloc _).trans h1
        go_wp2_with fail
        all_goals first
          | (go_ret; refine ⟨ret_int ?_, hx1⟩; rw [← HS.out, if_pos (by simp [resvAtNow, *])])
          | (go_roundw
             case rel =>
               refine ⟨k + 1, by omega, by go_num, ?_, hx1⟩
               rw [← HS.out, if_neg (by simp [resvAtNow, *]; try omega)]
             case measure => simp [intOf]; omega)
      · have tid : (l[k].id == id) = false := by simp [hid]
        clear hid
        go_wp2_with fail
        go_roundw
        case rel =>
          refine ⟨k + 1, by omega, by go_num, ?_, hx.alloc _⟩
          rw [← HS.out, if_neg (by simp [tid])]
        case measure => simp [intOf]; omega
    · go_wp2
      go_ret
      refine ⟨?_, hx⟩
      rw [← Hm.out, List.drop_of_length_le (by omega)]; rfl
set_option maxHeartbeats 400000 in
theorem i_FreeRate (l : List Resv) (v : Value) (c a i now : Int) (w : World) (hv : RdS Resv.rep w v l) :
    Calls Try.prog 100 #[v, .int .i64 c, .int .i64 a, .int .i64 i, .int .i64 now] w fun e w' => e = .returned (.int .i64 (freeRate l c a i now)) ∧ Ext w w' := by
  obtain ⟨o, cap, rfl, hsm⟩ := hv.shape
  go_enter Try.func100, Try.ntmps100
  go_wp2_with fail
  refine (i_ReservedRate l _ _ _ _ _ hv).mono ?_
  rintro e w1 ⟨rfl, h1⟩
  go_wp2_with fail
  refine (i_Max _ _ _).mono ?_
  rintro e w2 ⟨rfl, rfl⟩
  go_wp2_with fail
  go_ret
  exact ⟨rfl, h1⟩

set_option maxHeartbeats 400000 in
theorem s_ReservationRate (l : List Resv) (v : Value) (id a i now : Int) (w : World) (hv : RdS Resv.rep w v l) :
    Calls Try.prog 96 #[v, .int .i64 id, .int .i64 a, .int .i64 i, .int .i64 now] w fun e w' => e = .returned (.int .i64 (resvRate l id a i now)) ∧ Ext w w' := by
  obtain ⟨o, cap, rfl, hsm⟩ := hv.shape
  go_enter Try.func96, Try.ntmps96
  go_wp2
  go_loopw [11] (fun i' wr => ∃ k : Nat, k ≤ l.length ∧ i' = .int .i64 k ∧ resvRate (l.drop k) id a i now = resvRate l id a i now ∧ Ext w wr) (fun i _ => l.length - (intOf i).toNat)
  case atStart => exact ⟨0, Nat.zero_le _, rfl, rfl, Ext.refl _⟩
  case round =>
    obtain ⟨k, hk, rfl, hm, hx⟩ := hrel
    have Hm := Lib.hid hm; clear hm
    by_cases hlt : k < l.length
    · obtain ⟨b, off, rfl, hcw⟩ := Resv.at hv k hlt
      have hc := Resv.at_ext hx hcw
      have hstep : (if (l[k].id == id) && resvAtNow l[k] a i now then l[k].rate else resvRate (l.drop (k + 1)) id a i now) = resvRate l id a i now := by
        rw [← Hm.out, List.drop_eq_getElem_cons hlt]; rfl
      have HS := Lib.hid hstep; clear hstep
      by_cases hid : l[k].id = id
      · have tid : (l[k].id == id) = true := by simp [hid]
        clear hid
        go_wp2_with fail
        refine (s_l32At l[k] _ _ _ _).mono ?_
        rintro e w1 ⟨rfl, h1⟩
        have hx1 := hx.trans h1
        have hc1 := Resv.at_ext hx1 hcw
        go_wp2_with fail
        all_goals first
          | (go_ret; refine ⟨ret_int ?_, hx1⟩; rw [← HS.out, if_pos (by simp [*])])
          | (go_roundw
             case rel =>
               refine ⟨k + 1, by omega, by go_num, ?_, hx1⟩
               rw [← HS.out, if_neg (by simp [*]; try omega)]
             case measure => simp [intOf]; omega)
      · have tid : (l[k].id == id) = false := by simp [hid]
        clear hid
        go_wp2_with fail
        go_roundw
        case rel =>
          refine ⟨k + 1, by omega, by go_num, ?_, hx⟩
          rw [← HS.out, if_neg (by simp [tid])]
        case measure => simp [intOf]; omega
    · go_wp2
      go_ret
      refine ⟨?_, hx⟩
      rw [← Hm.out, List.drop_of_length_le (by omega)]; rfl
set_option maxHeartbeats 400000 in
theorem s_FreeRate (l : List Resv) (v : Value) (c a i now : Int) (w : World) (hv : RdS Resv.rep w v l) :
    Calls Try.prog 101 #[v, .int .i64 c, .int .i64 a, .int .i64 i, .int .i64 now] w fun e w' => e = .returned (.int .i64 (freeRate l c a i now)) ∧ Ext w w' := by
  obtain ⟨o, cap, rfl, hsm⟩ := hv.shape
  go_enter Try.func101, Try.ntmps101
  go_wp2_with fail
  refine (s_ReservedRate l _ _ _ _ _ hv).mono ?_
  rintro e w1 ⟨rfl, h1⟩
  go_wp2_with fail
  refine (s_Max _ _ _).mono ?_
  rintro e w2 ⟨rfl, rfl⟩
  go_wp2_with fail
  go_ret
  exact ⟨rfl, h1⟩

set_option maxRecDepth 100000 in
set_option maxHeartbeats 400000 in
theorem i_EqualReservations (a : List Resv) (va : Value) (b : List Resv) (vb : Value) (w : World) (ha : RdS Resv.rep w va a) (hb : RdS Resv.rep w vb b) :
    Calls Try.prog 27 #[va, vb] w fun e w' => e = .returned (.bool (decide (a = b))) ∧ Ext w w' := by
  obtain ⟨oa, ca, rfl, hsa⟩ := ha.shape
  obtain ⟨ob, cb, rfl, hsb⟩ := hb.shape
  by_cases hne : a.length = b.length
  · have Hne := Lib.hid hne
    have t1 : ((a.length : Int) != (b.length : Int)) = false := by simp [hne]
    clear hne
    go_enter Try.func27, Try.ntmps27
    go_wp2
    go_loopw [13] (fun i wr => ∃ (k : Nat), k ≤ a.length ∧ i = .int .i64 k ∧ a.take k = b.take k ∧ Ext w wr) (fun i _ => a.length - (intOf i).toNat)
    case atStart => exact ⟨0, Nat.zero_le _, rfl, rfl, Ext.refl _⟩
    case round =>
      obtain ⟨k, hk, rfl, htk, hx⟩ := hrel
      have Htk := Lib.hid htk; clear htk
      by_cases hlt : k < a.length
      · have hlb : k < b.length := by rw [← Hne.out]; exact hlt
        obtain ⟨b1, off1, rfl, hc1⟩ := Resv.at (ha.ext hx) k hlt
        obtain ⟨b2, off2, rfl, hc2⟩ := Resv.at (hb.ext hx) k hlb
        go_wp2
        go_still_tail 8, (by kernel_rfl)
        go_wp2_with fail
        all_goals first
          | (go_ret; exact ⟨ret_bool (Eq.symm (decide_eq_false (by rintro rfl; contradiction))), hx.drew⟩)
          | exact ⟨⟨k + 1, by omega, by go_num, take_snoc2 Htk.out hlt hlb (Resv.ext' (by assumption) (by assumption) (by assumption) (by assumption) (by assumption)), hx.drew⟩, by simp [intOf]; omega⟩
      · have hab : decide (a = b) = true := by
          have := Htk.out
          rw [List.take_of_length_le (by omega), List.take_of_length_le (by rw [← Hne.out]; omega)] at this
          simp [this]
        have Hab := Lib.hid hab; clear hab
        go_wp2
        go_ret
        exact ⟨ret_bool Hab.out.symm, hx⟩
  · have t1 : ((a.length : Int) != (b.length : Int)) = true := by simp [bne_iff_ne]; omega
    have hab : decide (a = b) = false := by
      rw [decide_eq_false_iff_not]; rintro rfl; exact hne rfl
    have Hab := Lib.hid hab; clear hab
    clear hne
    go_enter Try.func27, Try.ntmps27
    go_wp2
    go_ret
    exact ⟨ret_bool Hab.out.symm, Ext.refl _⟩


end Go.Proofs.Ytkolfiedakojoaa
