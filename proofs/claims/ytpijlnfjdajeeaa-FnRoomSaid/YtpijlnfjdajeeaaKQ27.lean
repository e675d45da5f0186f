/- What these laws need: FnLeases, FnRoom: Contracts of the functions on integers that the laws of this part reach. Contracts of the functions on parts and paths, program and reference. Contracts of the functions on revocations, program and reference, and of the laws over them. Contracts of the functions on reservations, program and reference. Contracts of the filters over revocations and reservations, program and reference. Contracts of the admission of reservations, program and reference. Draws of reservations: no more is said of them than their bounds. Contracts of the test of a list of reservations, program and reference. What admitting a reservation does: plain laws. -/
import Derived.Deep.DeepCutAuto
import Derived.Deep.LoopGhost
import Derived.IntWalk
import Derived.OwnWalk
import Derived.Test.YtpijlnfjdajeeaaKQ17
namespace Go.Proofs.Ytpijlnfjdajeeaa
section
open Go.ChangeShapes Go.WideShapes Go.ChangeAt Go.RowKit Go.Deep
set_option maxHeartbeats 400000 in
theorem i_Max (a b : Int) (w : World) :
  Calls Try.prog 183 #[.int .i64 a, .int .i64 b] w fun e w' => e = .returned (.int .i64 (max a b)) ∧ w = w' := by
 go_enter Try.func183, Try.ntmps183
 go_wp2
 all_goals
  go_ret
  refine ⟨ret_int ?_, rfl⟩
  omega
end
section
open Go.ChangeShapes Go.WideShapes Go.ChangeAt Go.RowKit Go.Deep
theorem elemStp : Nonempty (Elem Try.prog 43 64 3 24) := Elem.mk' Try.underlying43 Try.infoStep rfl (by decide)
end
section
open Go.ChangeShapes Go.WideShapes Go.ChangeAt Go.RowKit Go.Deep
def validRev (x : Revc) : Bool := inR x.asn 0 7 && inR x.iface 1 6 && inR x.till 0 1000000
set_option maxHeartbeats 400000 in
theorem i_ValidRevocation (x : Revc) (w : World) :
  Calls Try.prog 219 #[.agg #[.int .i64 x.asn, .int .i64 x.iface, .int .i64 x.till]] w fun e w' => e = .returned (.bool (validRev x)) ∧ Ext w w' := by
 go_enter Try.func219, Try.ntmps219
 go_wp2_with (go_at_call 125; refine (i_InRange _ _ _ _).mono ?_; rintro e w' ⟨rfl, rfl⟩)
 all_goals
  go_ret
  refine ⟨ret_bool ?_, (Ext.refl _).alloc _⟩
  simp [validRev, *]
set_option maxHeartbeats 400000 in
theorem s_ValidRevocation (x : Revc) (w : World) :
  Calls Try.prog 218 #[.agg #[.int .i64 x.asn, .int .i64 x.iface, .int .i64 x.till]] w fun e w' => e = .returned (.bool (validRev x)) ∧ Ext w w' := by
 go_enter Try.func218, Try.ntmps218
 go_wp2_with (go_at_call 137; refine (s_l1In _ _ _ _).mono ?_; rintro e w' ⟨rfl, rfl⟩)
 all_goals
  go_ret
  refine ⟨ret_bool ?_, (Ext.refl _).alloc _⟩
  simp [validRev, *]
end
section
open Go.ChangeShapes Go.WideShapes Go.ChangeAt Go.RowKit Go.Deep
def resvAt (r : Resv) (a i : Int) : Bool := (r.asn == a) && (r.iface == i)
def resvAtNow (r : Resv) (a i now : Int) : Bool := resvAt r a i && decide (now ≤ r.till)
def validResv (x : Resv) : Bool := inR x.id 1 100000 && inR x.rate 1 20 && validRev ⟨x.asn, x.iface, x.till⟩
set_option maxHeartbeats 400000 in
theorem i_at (r : Resv) (a i : Int) (w : World) :
    Calls Try.prog 180 #[.agg #[.int .i64 r.id, .int .i64 r.asn, .int .i64 r.iface, .int .i64 r.rate, .int .i64 r.till], .int .i64 a, .int .i64 i] w fun e w' => e = .returned (.bool (resvAt r a i)) ∧ Ext w w' := by
  go_enter Try.func180, Try.ntmps180
  go_wp2
  all_goals
    go_ret
    refine ⟨ret_bool ?_, (Ext.refl _).alloc _⟩
    simp [resvAt, *]
    try rfl
set_option maxHeartbeats 400000 in
theorem s_l32At (r : Resv) (a i now : Int) (w : World) :
    Calls Try.prog 211 #[.agg #[.int .i64 r.id, .int .i64 r.asn, .int .i64 r.iface, .int .i64 r.rate, .int .i64 r.till], .int .i64 a, .int .i64 i, .int .i64 now] w fun e w' => e = .returned (.bool (resvAtNow r a i now)) ∧ Ext w w' := by
  go_enter Try.func211, Try.ntmps211
  go_wp2
  all_goals
    go_ret
    refine ⟨ret_bool ?_, (Ext.refl _).alloc _⟩
    simp [resvAtNow, resvAt, *]
    try rfl
set_option maxHeartbeats 400000 in
theorem i_ValidReservation (x : Resv) (w : World) :
    Calls Try.prog 181 #[.agg #[.int .i64 x.id, .int .i64 x.asn, .int .i64 x.iface, .int .i64 x.rate, .int .i64 x.till]] w fun e w' => e = .returned (.bool (validResv x)) ∧ Ext w w' := by
  go_enter Try.func181, Try.ntmps181
  go_wp2_with (first | (go_at_call 125; refine (i_InRange _ _ _ _).mono ?_; rintro e w' ⟨rfl, rfl⟩) | (go_at_call 219; refine (i_ValidRevocation ⟨x.asn, x.iface, x.till⟩ _).mono ?_; rintro e w' ⟨rfl, hx⟩))
  all_goals
    go_ret
    refine ⟨ret_bool ?_, by first | exact ((Ext.refl _).alloc _).trans hx | exact (Ext.refl _).alloc _⟩
    simp only [validResv, *, Bool.true_and, Bool.false_and, Bool.and_false, Bool.and_true]
set_option maxHeartbeats 400000 in
theorem s_ValidReservation (x : Resv) (w : World) :
    Calls Try.prog 178 #[.agg #[.int .i64 x.id, .int .i64 x.asn, .int .i64 x.iface, .int .i64 x.rate, .int .i64 x.till]] w fun e w' => e = .returned (.bool (validResv x)) ∧ Ext w w' := by
  go_enter Try.func178, Try.ntmps178
  have hB := blk_new w (.cells #[.int .i64 x.id, .int .i64 x.asn, .int .i64 x.iface, .int .i64 x.rate, .int .i64 x.till] 141)
  have HB := Lib.hid hB; clear hB
  go_wp2_with (first | (go_at_call 137; refine (s_l1In _ _ _ _).mono ?_; rintro e w' ⟨rfl, rfl⟩) | (go_at_call 218; refine (s_ValidRevocation ⟨x.asn, x.iface, x.till⟩ _).mono ?_; rintro e w' ⟨rfl, hx⟩; have hcc := blk5 (hx.block HB.out)))
  all_goals
    go_ret
    refine ⟨ret_bool ?_, by first | exact ((Ext.refl _).alloc _).trans hx | exact (Ext.refl _).alloc _⟩
    simp only [validResv, *, Bool.true_and, Bool.false_and, Bool.and_false, Bool.and_true]
def sumRate (a i now : Int) : List Resv → Int → Int
  | [], n => n
  | r :: l, n => sumRate a i now l (if resvAtNow r a i now then wrap64 (n + r.rate) else n)
def resvdRate (l : List Resv) (a i now : Int) : Int := sumRate a i now l 0
def resvRate (l : List Resv) (id a i now : Int) : Int :=
  match l with
  | [] => 0
  | r :: l => if (r.id == id) && resvAtNow r a i now then r.rate else resvRate l id a i now
def freeRate (l : List Resv) (cap a i now : Int) : Int := max 0 (wrap64 (cap - resvdRate l a i now))
set_option maxHeartbeats 400000 in
theorem i_ReservedRate (l : List Resv) (v : Value) (a i now : Int) (w : World) (hv : RdS Resv.rep w v l) :
    Calls Try.prog 182 #[v, .int .i64 a, .int .i64 i, .int .i64 now] w fun e w' => e = .returned (.int .i64 (resvdRate l a i now)) ∧ Ext w w' := by
  obtain ⟨o, cap, rfl, hsm⟩ := hv.shape
  go_enter Try.func182, Try.ntmps182
  go_wp2
  go_loopw [9, 14] (fun n i' wr => ∃ k : Nat, k ≤ l.length ∧ i' = .int .i64 k ∧ (∃ m : Int, n = .int .i64 m ∧ sumRate a i now (l.drop k) m = resvdRate l a i now) ∧ Ext w wr) (fun _ i _ => l.length - (intOf i).toNat)
  case atStart => exact ⟨0, Nat.zero_le _, rfl, ⟨_, rfl, rfl⟩, Ext.refl _⟩
  case round =>
    obtain ⟨k, hk, rfl, ⟨m, rfl, hm⟩, hx⟩ := hrel
    have Hm := Lib.hid hm; clear hm
    by_cases hlt : k < l.length
    · obtain ⟨b, off, rfl, hc⟩ := Resv.at (hv.ext hx) k hlt
      have hstep : sumRate a i now (l.drop (k + 1)) (if resvAtNow l[k] a i now then wrap64 (m + l[k].rate) else m) = resvdRate l a i now := by
        rw [← Hm.out, List.drop_eq_getElem_cons hlt]; rfl
      have HS := Lib.hid hstep; clear hstep
      go_wp2_with fail
      refine (i_at l[k] _ _ _).mono ?_
      rintro e w1 ⟨rfl, h1⟩
      have hb := blk5 (h1.block (blk_new wr _))
      have hx1 := (hx.alloc _).trans h1
      go_wp2_with fail
      all_goals
        go_roundw
        case rel =>
          refine ⟨k + 1, by omega, by go_num, ⟨_, rfl, ?_⟩, hx1⟩
          rw [← HS.out]
          simp [resvAtNow, *]
          try (rw [if_neg (by omega)])
        case measure => simp [intOf]; omega
    · go_wp2
      go_ret
      refine ⟨?_, hx⟩
      rw [← Hm.out, List.drop_of_length_le (by omega)]; rfl
set_option maxHeartbeats 400000 in
theorem s_ReservedRate (l : List Resv) (v : Value) (a i now : Int) (w : World) (hv : RdS Resv.rep w v l) :
    Calls Try.prog 179 #[v, .int .i64 a, .int .i64 i, .int .i64 now] w fun e w' => e = .returned (.int .i64 (resvdRate l a i now)) ∧ Ext w w' := by
  obtain ⟨o, cap, rfl, hsm⟩ := hv.shape
  go_enter Try.func179, Try.ntmps179
  go_wp2
  go_loopw [9, 10] (fun n i' wr => ∃ k : Nat, k ≤ l.length ∧ i' = .int .i64 k ∧ (∃ m : Int, n = .int .i64 m ∧ sumRate a i now (l.drop k) m = resvdRate l a i now) ∧ Ext w wr) (fun _ i _ => l.length - (intOf i).toNat)
  case atStart => exact ⟨0, Nat.zero_le _, rfl, ⟨_, rfl, rfl⟩, Ext.refl _⟩
  case round =>
    obtain ⟨k, hk, rfl, ⟨m, rfl, hm⟩, hx⟩ := hrel
    have Hm := Lib.hid hm; clear hm
    by_cases hlt : k < l.length
    · obtain ⟨b, off, rfl, hcw⟩ := Resv.at hv k hlt
      have hc := Resv.at_ext hx hcw
      have hstep : sumRate a i now (l.drop (k + 1)) (if resvAtNow l[k] a i now then wrap64 (m + l[k].rate) else m) = resvdRate l a i now := by
        rw [← Hm.out, List.drop_eq_getElem_cons hlt]; rfl
      have HS := Lib.hid hstep; clear hstep
      go_wp2_with fail
      refine (s_l32At l[k] _ _ _ _).mono ?_
      rintro e w1 ⟨rfl, h1⟩
      have hx1 := hx.trans h1
      have hc1 := Resv.at_ext hx1 hcw
      go_wp2_with fail
      all_goals
        go_roundw
        case rel =>
          refine ⟨k + 1, by omega, by go_num, ⟨_, rfl, ?_⟩, hx1⟩
          rw [← HS.out]
          simp [*]
        case measure => simp [intOf]; omega
    · go_wp2
      go_ret
      refine ⟨?_, hx⟩
      rw [← Hm.out, List.drop_of_length_le (by omega)]; rfl
set_option maxHeartbeats 400000 in
theorem i_FreeRate (l : List Resv) (v : Value) (c a i now : Int) (w : World) (hv : RdS Resv.rep w v l) :
    Calls Try.prog 104 #[v, .int .i64 c, .int .i64 a, .int .i64 i, .int .i64 now] w fun e w' => e = .returned (.int .i64 (freeRate l c a i now)) ∧ Ext w w' := by
  obtain ⟨o, cap, rfl, hsm⟩ := hv.shape
  go_enter Try.func104, Try.ntmps104
  go_wp2_with fail
  refine (i_ReservedRate l _ _ _ _ _ hv).mono ?_
  rintro e w1 ⟨rfl, h1⟩
  go_wp2_with fail
  refine (i_Max _ _ _).mono ?_
  rintro e w2 ⟨rfl, rfl⟩
  go_wp2_with fail
  go_ret
  exact ⟨rfl, h1⟩
end
section
open Go.ChangeShapes Go.WideShapes Go.ChangeAt Go.RowKit Go.Deep
theorem elemResv : Nonempty (Elem Try.prog 56 141 5 40) := Elem.mk' Try.underlying56 Try.infoResv rfl (by decide)
def activeRevs (now : Int) (l : List Revc) : List Revc := l.filter fun x => decide (now ≤ x.till)
def release (id : Int) (l : List Resv) : List Resv := l.filter fun x => x.id != id
end
section
open Go.ChangeShapes Go.WideShapes Go.ChangeAt Go.RowKit Go.Deep
/-- y is not the reservation x's number at x's interface. -/
def otherResv (x y : Resv) : Bool := (y.id != x.id) || !(resvAt y x.asn x.iface)
def without (x : Resv) (l : List Resv) : List Resv := l.filter (otherResv x)
def tooMuch (l : List Resv) (x : Resv) (c now : Int) : Bool := decide (c < wrap64 (resvdRate (without x l) x.asn x.iface now + x.rate))
def refused (l : List Resv) (x : Resv) (c now : Int) : Bool := !(validResv x) || (decide (x.till < now)) || tooMuch l x c now || decide (40 ≤ (without x l).length)
def admit (l : List Resv) (x : Resv) (c now : Int) : List Resv × Bool := if refused l x c now then (l, false) else (without x l ++ [x], true)
theorem admit_no {l : List Resv} {x : Resv} {c now : Int} (h : refused l x c now = true) : admit l x c now = (l, false) := if_pos h
theorem admit_yes {l : List Resv} {x : Resv} {c now : Int} (h : refused l x c now = false) : admit l x c now = (without x l ++ [x], true) := if_neg (by rw [h]; decide)
theorem without_le (x : Resv) (l : List Resv) : (without x l).length ≤ l.length := List.length_filter_le _ _
set_option maxHeartbeats 400000 in
theorem i_copyReservations (l : List Resv) (v : Value) (w : World) (hv : RdS Resv.rep w v l) (hl : l.length ≤ 1099511627776) :
  Calls Try.prog 100 #[v] w fun e w' => ∃ v', e = .returned v' ∧ OwnF Resv.f 5 w.heap.size 141 w' v' l ∧ Ext w w' := by
 obtain ⟨E⟩ := elemResv
 go_enter Try.func100, Try.ntmps100
 go_wp2_with (at_builtin; refine appS E Resv.flen Resv.one rfl _ _ rfl l rfl (OwnF.empty Resv.f 5 w.heap.size _ w (Nat.le_refl _)) rfl (hv.ext ((Ext.refl _).alloc _)) (by first | omega | (simp; omega)) (by first | (unfold maxLen; omega) | (simp [maxLen]; omega)) (by simp) ?_)
 intro v' w' ho' hg'
 have hx' : Ext w w' := ((Ext.refl w).alloc _).app hg' (OwnF.empty Resv.f 5 w.heap.size 141 w (Nat.le_refl _)) (Nat.le_refl _)
 try rw [List.nil_append] at ho'
 clear hg'
 go_wp2
 go_ret
 exact ⟨_, rfl, ho', hx'⟩
set_option maxRecDepth 100000 in
set_option maxHeartbeats 40000000 in
theorem i_Admit (l : List Resv) (v : Value) (x : Resv) (c now : Int) (w : World) (hv : RdS Resv.rep w v l) (hl : l.length ≤ 1048576) :
  Calls Try.prog 101 #[v, .agg #[.int .i64 x.id, .int .i64 x.asn, .int .i64 x.iface, .int .i64 x.rate, .int .i64 x.till], .int .i64 c, .int .i64 now] w fun e w' => ∃ v', e = .returned (.tuple #[v', .bool (admit l x c now).2]) ∧ OwnF Resv.f 5 w.heap.size 141 w' v' (admit l x c now).1 ∧ Ext w w' := by
 obtain ⟨o, cap, rfl, hsm⟩ := hv.shape
 obtain ⟨E⟩ := elemResv
 go_enter Try.func101, Try.ntmps101
 go_wp2
 have hB := blk_new w (.cells #[.int .i64 x.id, .int .i64 x.asn, .int .i64 x.iface, .int .i64 x.rate, .int .i64 x.till] 141)
 have hx0 := (Ext.refl w).alloc (.cells #[.int .i64 x.id, .int .i64 x.asn, .int .i64 x.iface, .int .i64 x.rate, .int .i64 x.till] 141)
 generalize w.alloc (.cells #[.int .i64 x.id, .int .i64 x.asn, .int .i64 x.iface, .int .i64 x.rate, .int .i64 x.till] 141) = W0 at hB hx0 ⊢
 have HB := Lib.hid hB; clear hB
 go_loopw [10, 15] (fun out i wr => ∃ (k : Nat), k ≤ l.length ∧ i = .int .i64 k ∧ OwnF Resv.f 5 W0.heap.size 141 wr out (without x (l.take k)) ∧ Ext W0 wr) (fun _ i _ => l.length - (intOf i).toNat)
 case atStart => exact ⟨0, Nat.zero_le _, rfl, OwnF.nil _ _ _ _ _, Ext.refl _⟩
 case round =>
  obtain ⟨k, hk, rfl, hown, hx⟩ := hrel
  have hbr := hx.block HB.out
  have hcb := blk5 hbr
  have HBr := Lib.hid hbr; clear hbr
  by_cases hlt : k < l.length
  ·
   obtain ⟨b, off, rfl, hc⟩ := Resv.at (hv.ext (hx0.trans hx)) k hlt
   have hln : (without x (l.take k)).length ≤ k := Nat.le_trans (without_le _ _) (List.length_take_le _ _)
   have hcb2 := blk5 (Ext.block ((Ext.refl wr).alloc (.cells #[.int .i64 l[k].id, .int .i64 l[k].asn, .int .i64 l[k].iface, .int .i64 l[k].rate, .int .i64 l[k].till] 141)) HBr.out)
   by_cases hid : (l[k].id != x.id) = true
   ·
    have hnext : without x (l.take k) ++ [l[k]] = without x (l.take (k + 1)) := filter_pos (otherResv x) hlt (by simp only [otherResv, hid, Bool.true_or])
    have HN := Lib.hid hnext; clear hnext
    go_wp2_with (at_builtin; refine app1 E Resv.flen Resv.one rfl _ _ rfl l[k] rfl (OwnF.ext hown (((Ext.refl _).alloc _).alloc _)) rfl (by first | exact blk_list l[k].f (blk_new2 wr _ _) | exact fun j u hu => hu) (by omega) (by unfold maxLen; omega) (by exact ((hx.alloc _).alloc _).size) ?_)
    intro v' w' ho' hg'
    have hx' := ((hx.alloc _).alloc _).app hg' hown (Nat.le_refl _)
    rw [HN.out] at ho'
    clear hg'
    go_wp2
    go_roundw
    case rel => exact ⟨k + 1, by omega, by go_num, ho', hx'⟩
    case measure => simp [intOf]; omega
   ·
    have hid2 : (l[k].id != x.id) = false := by simpa using hid
    clear hid
    go_wp2_with fail
    refine (i_at l[k] _ _ _).mono ?_
    rintro e w1 ⟨rfl, h1⟩
    have hb1 := h1.block (blk_new wr _)
    have hcb1 := blk5 hb1
    have hx1 := (hx.alloc _).trans h1
    cases hat : resvAt l[k] x.asn x.iface
    ·
     have hnext : without x (l.take k) ++ [l[k]] = without x (l.take (k + 1)) := filter_pos (otherResv x) hlt (by simp only [otherResv, hat, Bool.not_false, Bool.or_true])
     have HN := Lib.hid hnext; clear hnext
     have hown1 := hown.ext (((Ext.refl _).alloc _).trans h1)
     go_wp2_with (at_builtin; refine app1 E Resv.flen Resv.one rfl _ _ rfl l[k] rfl (OwnF.ext hown1 ((Ext.refl _).alloc _)) rfl (by first | exact blk_list l[k].f (blk_new w1 _) | exact fun j u hu => hu) (by omega) (by unfold maxLen; omega) (by exact (hx1.alloc _).size) ?_)
     intro v' w' ho' hg'
     have hx' := (hx1.alloc _).app hg' hown1 (Nat.le_refl _)
     rw [HN.out] at ho'
     clear hg'
     go_wp2
     go_roundw
     case rel => exact ⟨k + 1, by omega, by go_num, ho', hx'⟩
     case measure => simp [intOf]; omega
    ·
     have hnext : without x (l.take k) = without x (l.take (k + 1)) := filter_neg (otherResv x) hlt (by simp only [otherResv, hid2, hat, Bool.not_true, Bool.or_false]; decide)
     have HN := Lib.hid hnext; clear hnext
     have hown1 := hown.ext (((Ext.refl _).alloc _).trans h1)
     rw [HN.out] at hown1
     go_wp2_with fail
     go_roundw
     case rel => exact ⟨k + 1, by omega, by go_num, hown1, hx1⟩
     case measure => simp [intOf]; omega
  ·
   rw [List.take_of_length_le (by omega)] at hown
   go_wp2_with fail
   have hrd := OwnF.rd (hf := Resv.flen) hown
   obtain ⟨oo, co, rfl, hso⟩ := hrd.shape
   have hwl := without_le x l
   cases hvx : validResv x
   ·
    refine wp_region_ext (by kernel_rfl) (by kernel_rfl) ?_
    have q0 := ExtW.cell (hcb.1)
    have q1 := ExtW.cell (hcb.2.1)
    have q2 := ExtW.cell (hcb.2.2.1)
    have q3 := ExtW.cell (hcb.2.2.2.1)
    have q4 := ExtW.cell (hcb.2.2.2.2)
    repeat (first | go_big_quiet_step (((first | (go_at_call 181; exact Calls.ext_of (i_ValidReservation x _)) | (go_at_call 182; exact Calls.ext_of (i_ReservedRate (without x l) _ _ _ _ _ (hrd.ext (ExtW.h _))))))) | quiet_step (((first | (go_at_call 181; exact Calls.ext_of (i_ValidReservation x _)) | (go_at_call 182; exact Calls.ext_of (i_ReservedRate (without x l) _ _ _ _ _ (hrd.ext (ExtW.h _))))))))
    refine wpQuiet_nil ?_
    intro w9 hw9
    have h9 : Ext wr w9 := by obtain ⟨y, rfl⟩ := hw9; exact y.h
    clear hw9 q0 q1 q2 q3 q4
    have hno : refused l x c now = true := by simp [refused, hvx]
    have HA := Lib.hid (admit_no hno)
    clear hno
    go_wp2_with fail
    refine (i_copyReservations l _ _ (hv.ext (hx0.trans (hx.trans h9))) (by omega)).mono ?_
    rintro e w8 ⟨v8, rfl, o8, h8⟩
    go_wp2_with fail
    go_ret2
    rw [HA.out]
    exact ⟨v8, rfl, o8.mono (hx0.trans (hx.trans h9)).size, hx0.trans (hx.trans (h9.trans h8))⟩
   ·
    by_cases htl : x.till < now
    ·
     refine wp_region_ext (by kernel_rfl) (by kernel_rfl) ?_
     have q0 := ExtW.cell (hcb.1)
     have q1 := ExtW.cell (hcb.2.1)
     have q2 := ExtW.cell (hcb.2.2.1)
     have q3 := ExtW.cell (hcb.2.2.2.1)
     have q4 := ExtW.cell (hcb.2.2.2.2)
     repeat (first | go_big_quiet_step (((first | (go_at_call 181; exact Calls.ext_of (i_ValidReservation x _)) | (go_at_call 182; exact Calls.ext_of (i_ReservedRate (without x l) _ _ _ _ _ (hrd.ext (ExtW.h _))))))) | quiet_step (((first | (go_at_call 181; exact Calls.ext_of (i_ValidReservation x _)) | (go_at_call 182; exact Calls.ext_of (i_ReservedRate (without x l) _ _ _ _ _ (hrd.ext (ExtW.h _))))))))
     refine wpQuiet_nil ?_
     intro w9 hw9
     have h9 : Ext wr w9 := by obtain ⟨y, rfl⟩ := hw9; exact y.h
     clear hw9 q0 q1 q2 q3 q4
     have hno : refused l x c now = true := by simp [refused, htl]
     have HA := Lib.hid (admit_no hno)
     clear hno
     go_wp2_with fail
     refine (i_copyReservations l _ _ (hv.ext (hx0.trans (hx.trans h9))) (by omega)).mono ?_
     rintro e w8 ⟨v8, rfl, o8, h8⟩
     go_wp2_with fail
     go_ret2
     rw [HA.out]
     exact ⟨v8, rfl, o8.mono (hx0.trans (hx.trans h9)).size, hx0.trans (hx.trans (h9.trans h8))⟩
    ·
     have htl2 : now ≤ x.till := by omega
     have htl3 : decide (x.till < now) = false := by simp [htl]
     by_cases htm : c < wrap64 (resvdRate (without x l) x.asn x.iface now + x.rate)
     ·
      have htm3 : tooMuch l x c now = true := by simp [tooMuch, htm]
      have Htm := Lib.hid htm3; clear htm3
      refine wp_region_ext (by kernel_rfl) (by kernel_rfl) ?_
      have q0 := ExtW.cell (hcb.1)
      have q1 := ExtW.cell (hcb.2.1)
      have q2 := ExtW.cell (hcb.2.2.1)
      have q3 := ExtW.cell (hcb.2.2.2.1)
      have q4 := ExtW.cell (hcb.2.2.2.2)
      repeat (first | go_big_quiet_step (((first | (go_at_call 181; exact Calls.ext_of (i_ValidReservation x _)) | (go_at_call 182; exact Calls.ext_of (i_ReservedRate (without x l) _ _ _ _ _ (hrd.ext (ExtW.h _))))))) | quiet_step (((first | (go_at_call 181; exact Calls.ext_of (i_ValidReservation x _)) | (go_at_call 182; exact Calls.ext_of (i_ReservedRate (without x l) _ _ _ _ _ (hrd.ext (ExtW.h _))))))))
      refine wpQuiet_nil ?_
      intro w9 hw9
      have h9 : Ext wr w9 := by obtain ⟨y, rfl⟩ := hw9; exact y.h
      clear hw9 q0 q1 q2 q3 q4
      have hno : refused l x c now = true := by simp [refused, Htm.out]
      have HA := Lib.hid (admit_no hno)
      clear hno
      go_wp2_with fail
      refine (i_copyReservations l _ _ (hv.ext (hx0.trans (hx.trans h9))) (by omega)).mono ?_
      rintro e w8 ⟨v8, rfl, o8, h8⟩
      go_wp2_with fail
      go_ret2
      rw [HA.out]
      exact ⟨v8, rfl, o8.mono (hx0.trans (hx.trans h9)).size, hx0.trans (hx.trans (h9.trans h8))⟩
     ·
      have htm2 : wrap64 (resvdRate (without x l) x.asn x.iface now + x.rate) ≤ c := by omega
      have htm3 : tooMuch l x c now = false := by simp [tooMuch]; omega
      have Htm := Lib.hid htm3; clear htm3
      by_cases h40 : 40 ≤ (without x l).length
      ·
       have h40i : (40 : Int) ≤ ((without x l).length : Int) := by omega
       refine wp_region_ext (by kernel_rfl) (by kernel_rfl) ?_
       have q0 := ExtW.cell (hcb.1)
       have q1 := ExtW.cell (hcb.2.1)
       have q2 := ExtW.cell (hcb.2.2.1)
       have q3 := ExtW.cell (hcb.2.2.2.1)
       have q4 := ExtW.cell (hcb.2.2.2.2)
       repeat (first | go_big_quiet_step (((first | (go_at_call 181; exact Calls.ext_of (i_ValidReservation x _)) | (go_at_call 182; exact Calls.ext_of (i_ReservedRate (without x l) _ _ _ _ _ (hrd.ext (ExtW.h _))))))) | quiet_step (((first | (go_at_call 181; exact Calls.ext_of (i_ValidReservation x _)) | (go_at_call 182; exact Calls.ext_of (i_ReservedRate (without x l) _ _ _ _ _ (hrd.ext (ExtW.h _))))))))
       refine wpQuiet_nil ?_
       intro w9 hw9
       have h9 : Ext wr w9 := by obtain ⟨y, rfl⟩ := hw9; exact y.h
       clear hw9 q0 q1 q2 q3 q4
       have hno : refused l x c now = true := by simp [refused, h40]
       have HA := Lib.hid (admit_no hno)
       clear hno
       go_wp2_with fail
       refine (i_copyReservations l _ _ (hv.ext (hx0.trans (hx.trans h9))) (by omega)).mono ?_
       rintro e w8 ⟨v8, rfl, o8, h8⟩
       go_wp2_with fail
       go_ret2
       rw [HA.out]
       exact ⟨v8, rfl, o8.mono (hx0.trans (hx.trans h9)).size, hx0.trans (hx.trans (h9.trans h8))⟩
      ·
       have h40i : ((without x l).length : Int) < 40 := by omega
       have h40j : decide ((40 : Int) ≤ ((without x l).length : Int)) = false := by simp; omega
       refine wp_region_ext (by kernel_rfl) (by kernel_rfl) ?_
       have q0 := ExtW.cell (hcb.1)
       have q1 := ExtW.cell (hcb.2.1)
       have q2 := ExtW.cell (hcb.2.2.1)
       have q3 := ExtW.cell (hcb.2.2.2.1)
       have q4 := ExtW.cell (hcb.2.2.2.2)
       repeat (first | go_big_quiet_step (((first | (go_at_call 181; exact Calls.ext_of (i_ValidReservation x _)) | (go_at_call 182; exact Calls.ext_of (i_ReservedRate (without x l) _ _ _ _ _ (hrd.ext (ExtW.h _))))))) | quiet_step (((first | (go_at_call 181; exact Calls.ext_of (i_ValidReservation x _)) | (go_at_call 182; exact Calls.ext_of (i_ReservedRate (without x l) _ _ _ _ _ (hrd.ext (ExtW.h _))))))))
       refine wpQuiet_nil ?_
       intro w9 hw9
       have h9 : Ext wr w9 := by obtain ⟨y, rfl⟩ := hw9; exact y.h
       clear hw9 q0 q1 q2 q3 q4
       have hyes : refused l x c now = false := by simp [refused, hvx, htl3, Htm.out]; omega
       have HA := Lib.hid (admit_yes hyes)
       clear hyes
       have hcb9 := blk5 (h9.block HBr.out)
       go_wp2_with (at_builtin; refine app1 E Resv.flen Resv.one rfl _ _ rfl x rfl (OwnF.ext hown (h9.alloc _)) rfl (by first | exact blk_list x.f (blk_new w9 _) | exact fun j u hu => hu) (by omega) (by unfold maxLen; omega) (by first | exact ((hx.trans h9).alloc _).size | (have := (hx.trans h9).size; omega)) ?_)
       intro v' w' ho' hg'
       have hx' := ((hx.trans h9).alloc _).app hg' hown (Nat.le_refl _)
       clear hg'
       go_wp2
       go_ret2
       rw [HA.out]
       exact ⟨v', rfl, ho'.mono hx0.size, hx0.trans hx'⟩
set_option maxRecDepth 100000 in
set_option maxHeartbeats 40000000 in
theorem s_l32Without (l : List Resv) (v : Value) (x : Resv) (w : World) (hv : RdS Resv.rep w v l) (hl : l.length ≤ 1048576) :
  Calls Try.prog 177 #[v, .agg #[.int .i64 x.id, .int .i64 x.asn, .int .i64 x.iface, .int .i64 x.rate, .int .i64 x.till]] w fun e w' => ∃ v', e = .returned v' ∧ OwnF Resv.f 5 w.heap.size 141 w' v' (without x l) ∧ Ext w w' := by
 obtain ⟨o, cap, rfl, hsm⟩ := hv.shape
 obtain ⟨E⟩ := elemResv
 go_enter Try.func177, Try.ntmps177
 go_wp2
 have hB := blk_new w (.cells #[.int .i64 x.id, .int .i64 x.asn, .int .i64 x.iface, .int .i64 x.rate, .int .i64 x.till] 141)
 have hx0 := (Ext.refl w).alloc (.cells #[.int .i64 x.id, .int .i64 x.asn, .int .i64 x.iface, .int .i64 x.rate, .int .i64 x.till] 141)
 have hown0 := OwnF.empty Resv.f 5 (w.alloc (.cells #[.int .i64 x.id, .int .i64 x.asn, .int .i64 x.iface, .int .i64 x.rate, .int .i64 x.till] 141)).heap.size 141 (w.alloc (.cells #[.int .i64 x.id, .int .i64 x.asn, .int .i64 x.iface, .int .i64 x.rate, .int .i64 x.till] 141)) (Nat.le_refl _)
 rw [nblk_alloc] at hown0
 go_loopw [5, 6] (fun out i wr => ∃ (k : Nat), k ≤ l.length ∧ i = .int .i64 k ∧ OwnF Resv.f 5 (w.heap.size + 1) 141 wr out (without x (l.take k)) ∧ Ext (w.alloc (.cells #[.int .i64 x.id, .int .i64 x.asn, .int .i64 x.iface, .int .i64 x.rate, .int .i64 x.till] 141)) wr) (fun _ i _ => l.length - (intOf i).toNat)
 case atStart => exact ⟨0, Nat.zero_le _, rfl, hown0, (Ext.refl _).alloc _⟩
 case round =>
  clear hown0
  obtain ⟨k, hk, rfl, hown, hx⟩ := hrel
  have hbr := hx.block hB
  have hcb := blk5 hbr
  have hsz : w.heap.size + 1 ≤ wr.heap.size := by have := hx.size; rw [nblk_alloc] at this; exact this
  clear hbr
  by_cases hlt : k < l.length
  ·
   obtain ⟨b, off, rfl, hc⟩ := Resv.at (hv.ext (hx0.trans hx)) k hlt
   have hln : (without x (l.take k)).length ≤ k := Nat.le_trans (without_le _ _) (List.length_take_le _ _)
   have ht : otherResv x l[k] = ((l[k].id != x.id) || (l[k].asn != x.asn) || (l[k].iface != x.iface)) := by
    simp only [otherResv, resvAt, Bool.not_and, Bool.or_assoc, bne]
   have HT := Lib.hid ht; clear ht
   have hlk0 : (0 : Int) ≤ (k : Int) := Int.natCast_nonneg _
   have hlk1 : (k : Int) < (l.length : Int) := by omega
   cases h1 : (l[k].id != x.id)
   ·
    cases h2 : (l[k].asn != x.asn)
    ·
     cases h3 : (l[k].iface != x.iface)
     ·
      have hnext : without x (l.take k) = without x (l.take (k + 1)) := filter_neg (otherResv x) hlt (by rw [HT.out, h1, h2, h3]; decide)
      rw [hnext] at hown
      clear hnext
      go_wp2_with fail
      refine wp_region_ext (by kernel_rfl) (by kernel_rfl) ?_
      have q0 := ExtW.cell (hcb.1)
      have q1 := ExtW.cell (hcb.2.1)
      have q2 := ExtW.cell (hcb.2.2.1)
      have q3 := ExtW.cell (hcb.2.2.2.1)
      have q4 := ExtW.cell (hcb.2.2.2.2)
      have q5 := ExtW.cell (hc.1)
      have q6 := ExtW.cell (hc.2.1)
      have q7 := ExtW.cell (hc.2.2.1)
      have q8 := ExtW.cell (hc.2.2.2.1)
      have q9 := ExtW.cell (hc.2.2.2.2)
      repeat (first | go_big_quiet_step ((fail)) | quiet_step ((fail)))
      refine wpQuiet_nil ?_
      intro w9 hw9
      have h9 : Ext wr w9 := by obtain ⟨y, rfl⟩ := hw9; exact y.h
      clear hw9 q0 q1 q2 q3 q4 q5 q6 q7 q8 q9
      go_wp2_with fail
      go_roundw
      case rel => exact ⟨k + 1, by omega, by go_num, hown.ext h9, hx.trans h9⟩
      case measure => simp [intOf]; omega
     ·
      have hnext : without x (l.take k) ++ [l[k]] = without x (l.take (k + 1)) := filter_pos (otherResv x) hlt (by rw [HT.out, h1, h2, h3]; rfl)
      have HN := Lib.hid hnext; clear hnext
      go_wp2_with fail
      refine wp_region_ext (by kernel_rfl) (by kernel_rfl) ?_
      have q0 := ExtW.cell (hcb.1)
      have q1 := ExtW.cell (hcb.2.1)
      have q2 := ExtW.cell (hcb.2.2.1)
      have q3 := ExtW.cell (hcb.2.2.2.1)
      have q4 := ExtW.cell (hcb.2.2.2.2)
      have q5 := ExtW.cell (hc.1)
      have q6 := ExtW.cell (hc.2.1)
      have q7 := ExtW.cell (hc.2.2.1)
      have q8 := ExtW.cell (hc.2.2.2.1)
      have q9 := ExtW.cell (hc.2.2.2.2)
      repeat (first | go_big_quiet_step ((fail)) | quiet_step ((fail)))
      refine wpQuiet_nil ?_
      intro w9 hw9
      have h9 : Ext wr w9 := by obtain ⟨y, rfl⟩ := hw9; exact y.h
      clear hw9 q0 q1 q2 q3 q4 q5 q6 q7 q8 q9
      have hc9 := Resv.at_ext h9 hc
      have hown9 := hown.ext h9
      go_wp2_with (at_builtin; refine app1 E Resv.flen Resv.one rfl _ _ rfl l[k] rfl (OwnF.ext hown9 ((Ext.refl _).alloc _)) rfl (by first | exact blk_list l[k].f (blk_new w9 _) | exact fun j u hu => hu) (by omega) (by unfold maxLen; omega) (by exact Nat.le_trans (Nat.le_of_eq (nblk_alloc w _).symm) ((hx.trans h9).alloc _).size) ?_)
      intro v' w' ho' hg'
      have hx' := ((hx.trans h9).alloc _).app hg' hown9 (Nat.le_of_eq (nblk_alloc w _))
      rw [HN.out] at ho'
      clear hg'
      go_wp2
      go_roundw
      case rel => exact ⟨k + 1, by omega, by go_num, ho', hx'⟩
      case measure => simp [intOf]; omega
    ·
     have hnext : without x (l.take k) ++ [l[k]] = without x (l.take (k + 1)) := filter_pos (otherResv x) hlt (by rw [HT.out, h1, h2]; rfl)
     have HN := Lib.hid hnext; clear hnext
     go_wp2_with fail
     refine wp_region_ext (by kernel_rfl) (by kernel_rfl) ?_
     have q0 := ExtW.cell (hcb.1)
     have q1 := ExtW.cell (hcb.2.1)
     have q2 := ExtW.cell (hcb.2.2.1)
     have q3 := ExtW.cell (hcb.2.2.2.1)
     have q4 := ExtW.cell (hcb.2.2.2.2)
     have q5 := ExtW.cell (hc.1)
     have q6 := ExtW.cell (hc.2.1)
     have q7 := ExtW.cell (hc.2.2.1)
     have q8 := ExtW.cell (hc.2.2.2.1)
     have q9 := ExtW.cell (hc.2.2.2.2)
     repeat (first | go_big_quiet_step ((fail)) | quiet_step ((fail)))
     refine wpQuiet_nil ?_
     intro w9 hw9
     have h9 : Ext wr w9 := by obtain ⟨y, rfl⟩ := hw9; exact y.h
     clear hw9 q0 q1 q2 q3 q4 q5 q6 q7 q8 q9
     have hc9 := Resv.at_ext h9 hc
     have hown9 := hown.ext h9
     go_wp2_with (at_builtin; refine app1 E Resv.flen Resv.one rfl _ _ rfl l[k] rfl (OwnF.ext hown9 ((Ext.refl _).alloc _)) rfl (by first | exact blk_list l[k].f (blk_new w9 _) | exact fun j u hu => hu) (by omega) (by unfold maxLen; omega) (by exact Nat.le_trans (Nat.le_of_eq (nblk_alloc w _).symm) ((hx.trans h9).alloc _).size) ?_)
     intro v' w' ho' hg'
     have hx' := ((hx.trans h9).alloc _).app hg' hown9 (Nat.le_of_eq (nblk_alloc w _))
     rw [HN.out] at ho'
     clear hg'
     go_wp2
     go_roundw
     case rel => exact ⟨k + 1, by omega, by go_num, ho', hx'⟩
     case measure => simp [intOf]; omega
   ·
    have hnext : without x (l.take k) ++ [l[k]] = without x (l.take (k + 1)) := filter_pos (otherResv x) hlt (by rw [HT.out, h1]; rfl)
    have HN := Lib.hid hnext; clear hnext
    go_wp2_with fail
    refine wp_region_ext (by kernel_rfl) (by kernel_rfl) ?_
    have q0 := ExtW.cell (hcb.1)
    have q1 := ExtW.cell (hcb.2.1)
    have q2 := ExtW.cell (hcb.2.2.1)
    have q3 := ExtW.cell (hcb.2.2.2.1)
    have q4 := ExtW.cell (hcb.2.2.2.2)
    have q5 := ExtW.cell (hc.1)
    have q6 := ExtW.cell (hc.2.1)
    have q7 := ExtW.cell (hc.2.2.1)
    have q8 := ExtW.cell (hc.2.2.2.1)
    have q9 := ExtW.cell (hc.2.2.2.2)
    repeat (first | go_big_quiet_step ((fail)) | quiet_step ((fail)))
    refine wpQuiet_nil ?_
    intro w9 hw9
    have h9 : Ext wr w9 := by obtain ⟨y, rfl⟩ := hw9; exact y.h
    clear hw9 q0 q1 q2 q3 q4 q5 q6 q7 q8 q9
    have hc9 := Resv.at_ext h9 hc
    have hown9 := hown.ext h9
    go_wp2_with (at_builtin; refine app1 E Resv.flen Resv.one rfl _ _ rfl l[k] rfl (OwnF.ext hown9 ((Ext.refl _).alloc _)) rfl (by first | exact blk_list l[k].f (blk_new w9 _) | exact fun j u hu => hu) (by omega) (by unfold maxLen; omega) (by exact Nat.le_trans (Nat.le_of_eq (nblk_alloc w _).symm) ((hx.trans h9).alloc _).size) ?_)
    intro v' w' ho' hg'
    have hx' := ((hx.trans h9).alloc _).app hg' hown9 (Nat.le_of_eq (nblk_alloc w _))
    rw [HN.out] at ho'
    clear hg'
    go_wp2
    go_roundw
    case rel => exact ⟨k + 1, by omega, by go_num, ho', hx'⟩
    case measure => simp [intOf]; omega
  ·
   go_wp2
   go_ret
   rw [List.take_of_length_le (by omega)] at hown
   exact ⟨_, rfl, hown.mono (by omega), hx0.trans hx⟩
set_option maxRecDepth 100000 in
set_option maxHeartbeats 40000000 in
theorem s_Admit (l : List Resv) (v : Value) (x : Resv) (c now : Int) (w : World) (hv : RdS Resv.rep w v l) (hl : l.length ≤ 1048576) :
  Calls Try.prog 95 #[v, .agg #[.int .i64 x.id, .int .i64 x.asn, .int .i64 x.iface, .int .i64 x.rate, .int .i64 x.till], .int .i64 c, .int .i64 now] w fun e w' => ∃ v', e = .returned (.tuple #[v', .bool (admit l x c now).2]) ∧ OwnF Resv.f 5 w.heap.size 141 w' v' (admit l x c now).1 ∧ Ext w w' := by
 obtain ⟨o, cap, rfl, hsm⟩ := hv.shape
 obtain ⟨E⟩ := elemResv
 go_enter Try.func95, Try.ntmps95
 go_wp2_with fail
 have hB := blk_new w (.cells #[.int .i64 x.id, .int .i64 x.asn, .int .i64 x.iface, .int .i64 x.rate, .int .i64 x.till] 141)
 have hx0 := (Ext.refl w).alloc (.cells #[.int .i64 x.id, .int .i64 x.asn, .int .i64 x.iface, .int .i64 x.rate, .int .i64 x.till] 141)
 generalize w.alloc (.cells #[.int .i64 x.id, .int .i64 x.asn, .int .i64 x.iface, .int .i64 x.rate, .int .i64 x.till] 141) = W0 at hB hx0 ⊢
 refine (s_l32Without l _ x _ (hv.ext hx0) hl).mono ?_
 rintro e wr ⟨vo, rfl, hown, hx⟩
 have hbr := hx.block hB
 have hcb := blk5 hbr
 have HBr := Lib.hid hbr; clear hbr hB
 have hrd := OwnF.rd (hf := Resv.flen) hown
 obtain ⟨oo, co, rfl, hso⟩ := hrd.shape
 go_wp2_with fail
 have hwl := without_le x l
 cases hvx : validResv x
 ·
  refine wp_region_ext (by kernel_rfl) (by kernel_rfl) ?_
  have q0 := ExtW.cell (hcb.1)
  have q1 := ExtW.cell (hcb.2.1)
  have q2 := ExtW.cell (hcb.2.2.1)
  have q3 := ExtW.cell (hcb.2.2.2.1)
  have q4 := ExtW.cell (hcb.2.2.2.2)
  repeat (first | go_big_quiet_step (((first | (go_at_call 178; exact Calls.ext_of (s_ValidReservation x _)) | (go_at_call 179; exact Calls.ext_of (s_ReservedRate (without x l) _ _ _ _ _ (hrd.ext (ExtW.h _))))))) | quiet_step (((first | (go_at_call 178; exact Calls.ext_of (s_ValidReservation x _)) | (go_at_call 179; exact Calls.ext_of (s_ReservedRate (without x l) _ _ _ _ _ (hrd.ext (ExtW.h _))))))))
  refine wpQuiet_nil ?_
  intro w9 hw9
  have h9 : Ext wr w9 := by obtain ⟨y, rfl⟩ := hw9; exact y.h
  clear hw9 q0 q1 q2 q3 q4
  have hno : refused l x c now = true := by simp [refused, hvx]
  have HA := Lib.hid (admit_no hno)
  clear hno
  go_wp2_with (at_builtin; refine appS E Resv.flen Resv.one rfl _ _ rfl l rfl (OwnF.empty Resv.f 5 w9.heap.size _ w9 (Nat.le_refl _)) rfl (hv.ext ((hx0.trans (hx.trans h9)).alloc _)) (by first | omega | (simp; omega)) (by first | (unfold maxLen; omega) | (simp [maxLen]; omega)) (by simp) ?_)
  intro v' w' ho' hg'
  have hx' : Ext w9 w' := ((Ext.refl w9).alloc _).app hg' (OwnF.empty Resv.f 5 w9.heap.size 141 w9 (Nat.le_refl _)) (Nat.le_refl _)
  try rw [List.nil_append] at ho'
  clear hg'
  go_wp2
  go_ret2
  rw [HA.out]
  exact ⟨v', rfl, ho'.mono (hx0.trans (hx.trans h9)).size, hx0.trans (hx.trans (h9.trans hx'))⟩
 ·
  by_cases htl : x.till < now
  ·
   refine wp_region_ext (by kernel_rfl) (by kernel_rfl) ?_
   have q0 := ExtW.cell (hcb.1)
   have q1 := ExtW.cell (hcb.2.1)
   have q2 := ExtW.cell (hcb.2.2.1)
   have q3 := ExtW.cell (hcb.2.2.2.1)
   have q4 := ExtW.cell (hcb.2.2.2.2)
   repeat (first | go_big_quiet_step (((first | (go_at_call 178; exact Calls.ext_of (s_ValidReservation x _)) | (go_at_call 179; exact Calls.ext_of (s_ReservedRate (without x l) _ _ _ _ _ (hrd.ext (ExtW.h _))))))) | quiet_step (((first | (go_at_call 178; exact Calls.ext_of (s_ValidReservation x _)) | (go_at_call 179; exact Calls.ext_of (s_ReservedRate (without x l) _ _ _ _ _ (hrd.ext (ExtW.h _))))))))
   refine wpQuiet_nil ?_
   intro w9 hw9
   have h9 : Ext wr w9 := by obtain ⟨y, rfl⟩ := hw9; exact y.h
   clear hw9 q0 q1 q2 q3 q4
   have hno : refused l x c now = true := by simp [refused, htl]
   have HA := Lib.hid (admit_no hno)
   clear hno
   go_wp2_with (at_builtin; refine appS E Resv.flen Resv.one rfl _ _ rfl l rfl (OwnF.empty Resv.f 5 w9.heap.size _ w9 (Nat.le_refl _)) rfl (hv.ext ((hx0.trans (hx.trans h9)).alloc _)) (by first | omega | (simp; omega)) (by first | (unfold maxLen; omega) | (simp [maxLen]; omega)) (by simp) ?_)
   intro v' w' ho' hg'
   have hx' : Ext w9 w' := ((Ext.refl w9).alloc _).app hg' (OwnF.empty Resv.f 5 w9.heap.size 141 w9 (Nat.le_refl _)) (Nat.le_refl _)
   try rw [List.nil_append] at ho'
   clear hg'
   go_wp2
   go_ret2
   rw [HA.out]
   exact ⟨v', rfl, ho'.mono (hx0.trans (hx.trans h9)).size, hx0.trans (hx.trans (h9.trans hx'))⟩
  ·
   have htl2 : now ≤ x.till := by omega
   have htl3 : decide (x.till < now) = false := by simp [htl]
   by_cases htm : c < wrap64 (resvdRate (without x l) x.asn x.iface now + x.rate)
   ·
    have htm3 : tooMuch l x c now = true := by simp [tooMuch, htm]
    have Htm := Lib.hid htm3; clear htm3
    refine wp_region_ext (by kernel_rfl) (by kernel_rfl) ?_
    have q0 := ExtW.cell (hcb.1)
    have q1 := ExtW.cell (hcb.2.1)
    have q2 := ExtW.cell (hcb.2.2.1)
    have q3 := ExtW.cell (hcb.2.2.2.1)
    have q4 := ExtW.cell (hcb.2.2.2.2)
    repeat (first | go_big_quiet_step (((first | (go_at_call 178; exact Calls.ext_of (s_ValidReservation x _)) | (go_at_call 179; exact Calls.ext_of (s_ReservedRate (without x l) _ _ _ _ _ (hrd.ext (ExtW.h _))))))) | quiet_step (((first | (go_at_call 178; exact Calls.ext_of (s_ValidReservation x _)) | (go_at_call 179; exact Calls.ext_of (s_ReservedRate (without x l) _ _ _ _ _ (hrd.ext (ExtW.h _))))))))
    refine wpQuiet_nil ?_
    intro w9 hw9
    have h9 : Ext wr w9 := by obtain ⟨y, rfl⟩ := hw9; exact y.h
    clear hw9 q0 q1 q2 q3 q4
    have hno : refused l x c now = true := by simp [refused, Htm.out]
    have HA := Lib.hid (admit_no hno)
    clear hno
    go_wp2_with (at_builtin; refine appS E Resv.flen Resv.one rfl _ _ rfl l rfl (OwnF.empty Resv.f 5 w9.heap.size _ w9 (Nat.le_refl _)) rfl (hv.ext ((hx0.trans (hx.trans h9)).alloc _)) (by first | omega | (simp; omega)) (by first | (unfold maxLen; omega) | (simp [maxLen]; omega)) (by simp) ?_)
    intro v' w' ho' hg'
    have hx' : Ext w9 w' := ((Ext.refl w9).alloc _).app hg' (OwnF.empty Resv.f 5 w9.heap.size 141 w9 (Nat.le_refl _)) (Nat.le_refl _)
    try rw [List.nil_append] at ho'
    clear hg'
    go_wp2
    go_ret2
    rw [HA.out]
    exact ⟨v', rfl, ho'.mono (hx0.trans (hx.trans h9)).size, hx0.trans (hx.trans (h9.trans hx'))⟩
   ·
    have htm2 : wrap64 (resvdRate (without x l) x.asn x.iface now + x.rate) ≤ c := by omega
    have htm3 : tooMuch l x c now = false := by simp [tooMuch]; omega
    have Htm := Lib.hid htm3; clear htm3
    by_cases h40 : 40 ≤ (without x l).length
    ·
     have h40i : (40 : Int) ≤ ((without x l).length : Int) := by omega
     refine wp_region_ext (by kernel_rfl) (by kernel_rfl) ?_
     have q0 := ExtW.cell (hcb.1)
     have q1 := ExtW.cell (hcb.2.1)
     have q2 := ExtW.cell (hcb.2.2.1)
     have q3 := ExtW.cell (hcb.2.2.2.1)
     have q4 := ExtW.cell (hcb.2.2.2.2)
     repeat (first | go_big_quiet_step (((first | (go_at_call 178; exact Calls.ext_of (s_ValidReservation x _)) | (go_at_call 179; exact Calls.ext_of (s_ReservedRate (without x l) _ _ _ _ _ (hrd.ext (ExtW.h _))))))) | quiet_step (((first | (go_at_call 178; exact Calls.ext_of (s_ValidReservation x _)) | (go_at_call 179; exact Calls.ext_of (s_ReservedRate (without x l) _ _ _ _ _ (hrd.ext (ExtW.h _))))))))
     refine wpQuiet_nil ?_
     intro w9 hw9
     have h9 : Ext wr w9 := by obtain ⟨y, rfl⟩ := hw9; exact y.h
     clear hw9 q0 q1 q2 q3 q4
     have hno : refused l x c now = true := by simp [refused, h40]
     have HA := Lib.hid (admit_no hno)
     clear hno
     go_wp2_with (at_builtin; refine appS E Resv.flen Resv.one rfl _ _ rfl l rfl (OwnF.empty Resv.f 5 w9.heap.size _ w9 (Nat.le_refl _)) rfl (hv.ext ((hx0.trans (hx.trans h9)).alloc _)) (by first | omega | (simp; omega)) (by first | (unfold maxLen; omega) | (simp [maxLen]; omega)) (by simp) ?_)
     intro v' w' ho' hg'
     have hx' : Ext w9 w' := ((Ext.refl w9).alloc _).app hg' (OwnF.empty Resv.f 5 w9.heap.size 141 w9 (Nat.le_refl _)) (Nat.le_refl _)
     try rw [List.nil_append] at ho'
     clear hg'
     go_wp2
     go_ret2
     rw [HA.out]
     exact ⟨v', rfl, ho'.mono (hx0.trans (hx.trans h9)).size, hx0.trans (hx.trans (h9.trans hx'))⟩
    ·
     have h40i : ((without x l).length : Int) < 40 := by omega
     have h40j : decide ((40 : Int) ≤ ((without x l).length : Int)) = false := by simp; omega
     refine wp_region_ext (by kernel_rfl) (by kernel_rfl) ?_
     have q0 := ExtW.cell (hcb.1)
     have q1 := ExtW.cell (hcb.2.1)
     have q2 := ExtW.cell (hcb.2.2.1)
     have q3 := ExtW.cell (hcb.2.2.2.1)
     have q4 := ExtW.cell (hcb.2.2.2.2)
     repeat (first | go_big_quiet_step (((first | (go_at_call 178; exact Calls.ext_of (s_ValidReservation x _)) | (go_at_call 179; exact Calls.ext_of (s_ReservedRate (without x l) _ _ _ _ _ (hrd.ext (ExtW.h _))))))) | quiet_step (((first | (go_at_call 178; exact Calls.ext_of (s_ValidReservation x _)) | (go_at_call 179; exact Calls.ext_of (s_ReservedRate (without x l) _ _ _ _ _ (hrd.ext (ExtW.h _))))))))
     refine wpQuiet_nil ?_
     intro w9 hw9
     have h9 : Ext wr w9 := by obtain ⟨y, rfl⟩ := hw9; exact y.h
     clear hw9 q0 q1 q2 q3 q4
     have hyes : refused l x c now = false := by simp [refused, hvx, htl3, Htm.out]; omega
     have HA := Lib.hid (admit_yes hyes)
     clear hyes
     have hcb9 := blk5 (h9.block HBr.out)
     go_wp2_with (at_builtin; refine app1 E Resv.flen Resv.one rfl _ _ rfl x rfl (OwnF.ext hown (h9.alloc _)) rfl (by first | exact blk_list x.f (blk_new w9 _) | exact fun j u hu => hu) (by omega) (by unfold maxLen; omega) (by first | exact ((hx.trans h9).alloc _).size | (have := (hx.trans h9).size; omega)) ?_)
     intro v' w' ho' hg'
     have hx' := ((hx.trans h9).alloc _).app hg' hown (Nat.le_refl _)
     clear hg'
     go_wp2
     go_ret2
     rw [HA.out]
     exact ⟨v', rfl, ho'.mono hx0.size, hx0.trans hx'⟩
end
section
open Go.ChangeShapes Go.WideShapes Go.ChangeAt Go.RowKit Go.Deep
theorem admit_max40 (l : List Resv) (x : Resv) (c now : Int) (h : l.length ≤ 40) : (admit l x c now).1.length ≤ 40 := by
 cases hr : refused l x c now
 ·
  rw [admit_yes hr]
  have h2 := hr
  unfold refused at h2
  simp only [Bool.or_eq_false_iff, decide_eq_false_iff_not] at h2
  simp; omega
 ·
  unfold admit; rw [hr]; exact h
set_option maxRecDepth 100000 in
set_option maxHeartbeats 2000000 in
theorem s_l32Share (g : Nat)  (cv : Value) (cd : List Int) (w : World) (hc : Cur g cv cd w) :
  Calls Try.prog 96 #[.pointer (some ⟨g, 0, none⟩)] w fun e w' => ∃ x : Resv, e = .returned (.agg #[.int .i64 x.id, .int .i64 x.asn, .int .i64 x.iface, .int .i64 x.rate, .int .i64 x.till]) ∧ 1 ≤ x.id ∧ x.id ≤ 5 ∧ 0 ≤ x.asn ∧ x.asn ≤ 3 ∧ 1 ≤ x.iface ∧ x.iface ≤ 3 ∧ 1 ≤ x.rate ∧ x.rate ≤ 4 ∧ 40 ≤ x.till ∧ x.till ≤ 69 ∧ Cur g cv cd w' ∧ Chg (at1 g) w w' := by
 have hgw := hc.lt
 have hx0 : Ext w (w.alloc (.cells #[.int .i64 0, .int .i64 0, .int .i64 0, .int .i64 0, .int .i64 0] 141)) := (Ext.refl _).alloc _
 have HB0 := Lib.hid (blk_new w (.cells #[.int .i64 0, .int .i64 0, .int .i64 0, .int .i64 0, .int .i64 0] 141))
 go_enter Try.func96, Try.ntmps96
 go_wp2_with fail
 refine (s_l1Below g (5) _ _ _ (hc.ext hx0)).mono ?_
 rintro e w1 ⟨a, rfl, ha0, ha1, hc1, hz1⟩
 have ha2 : a < 5 := by omega
 clear ha1
 go_wp2_with fail
 refine (s_l1Below g (4) _ _ _ hc1).mono ?_
 rintro e w2 ⟨b, rfl, hb0, hb1, hc2, hz2⟩
 have hb2 : b < 4 := by omega
 clear hb1
 go_wp2_with fail
 refine (s_l1Below g (3) _ _ _ hc2).mono ?_
 rintro e w3 ⟨c, rfl, hc0, hc1, hc3, hz3⟩
 have hc2 : c < 3 := by omega
 clear hc1
 go_wp2_with fail
 refine (s_l1Below g (4) _ _ _ hc3).mono ?_
 rintro e w4 ⟨d, rfl, hd0, hd1, hc4, hz4⟩
 have hd2 : d < 4 := by omega
 clear hd1
 go_wp2_with fail
 refine (s_l1Below g (30) _ _ _ hc4).mono ?_
 rintro e w5 ⟨e2, rfl, he20, he21, hc5, hz5⟩
 have he22 : e2 < 30 := by omega
 clear he21
 have HRB := Lib.hid (Chg.blkS ((((hz1.trans hz2).trans hz3).trans hz4).trans hz5) HB0.out (by unfold at1; omega))
 obtain ⟨wq, hwq, hbq, hcq⟩ := rs_set HRB.out (.int .i64 (1 + a)) (.int .i64 b) (.int .i64 (1 + c)) (.int .i64 (1 + d)) (.int .i64 (40 + e2))
 have HWQ := Lib.hid hwq
 have HBQ := Lib.hid hbq
 have HCE := Lib.hid (Chg.up ((((((Chg.ofExt hx0).trans hz1).trans hz2).trans hz3).trans hz4).trans hz5) hcq (fun i hi => .inr (by have h1 : i = w.heap.size := hi; omega)))
 have HCU := Lib.hid (Cur.kept hc hc5 hcq (by unfold at1; omega) HCE.out)
 clear hwq hbq hcq
 have cR := blk5 HRB.out
 have fR0 := fr_of HRB.out 0
 have fR1 := fr_of HRB.out 1
 have fR2 := fr_of HRB.out 2
 have fR3 := fr_of HRB.out 3
 have fR4 := fr_of HRB.out 4
 go_wp2_with fail
 rw [← HWQ.out]
 clear cR fR0 fR1 fR2 fR3 fR4 
 have cc := blk5 HBQ.out
 refine bodyPost_ret (v := .agg #[.int .i64 (1 + a), .int .i64 b, .int .i64 (1 + c), .int .i64 (1 + d), .int .i64 (40 + e2)]) (by simp [results, Try.results96, go_sem, cc]) rfl ?_
 exact ⟨⟨1 + a, b, 1 + c, 1 + d, 40 + e2⟩, rfl, by simp only; omega, by simp only; omega, by simp only; omega, by simp only; omega, by simp only; omega, by simp only; omega, by simp only; omega, by simp only; omega, by simp only; omega, by simp only; omega, HCU.out, HCE.out⟩
end
section
open Go.ChangeShapes Go.WideShapes Go.ChangeAt Go.RowKit Go.Deep
def resvFits (l : List Resv) (c now : Int) (x : Resv) : Bool := validResv x && decide (resvdRate l x.asn x.iface now ≤ c)
/-- Each fits, and none has the number and the interface of one before it. -/
def resvsOk (l : List Resv) (c now : Int) (k : Nat) : Bool := (List.range k).all fun i => match l[i]? with
 | none => true
 | some x => resvFits l c now x && (l.take i).all (otherResv x)
def validResvs (l : List Resv) (c now : Int) : Bool := decide (l.length ≤ 40) && resvsOk l c now l.length
end
section
open Go.RowKit
theorem sumRate_app (a i now : Int) : ∀ (l m : List Resv) (n : Int), sumRate a i now (l ++ m) n = sumRate a i now m (sumRate a i now l n)
  | [], _, _ => rfl
  | r :: l, m, n => by simp only [List.cons_append, sumRate]; exact sumRate_app a i now l m _
/-- Those that stand at another place count for nothing. -/
theorem sumRate_filter (a i now : Int) (p : Resv → Bool) : ∀ (l : List Resv) (n : Int), (∀ r ∈ l, p r = false → resvAtNow r a i now = false) → sumRate a i now (l.filter p) n = sumRate a i now l n
  | [], _, _ => rfl
  | r :: l, n, h => by
    have ih := fun n => sumRate_filter a i now p l n (fun q hq => h q (by simp [hq]))
    cases hp : p r
    · rw [List.filter_cons_of_neg (by simp [hp]), ih]
      simp [sumRate, h r (by simp) hp]
    · rw [List.filter_cons_of_pos hp]
      simp only [sumRate]
      exact ih _
theorem at_eq {r : Resv} {a i : Int} : resvAt r a i = true ↔ r.asn = a ∧ r.iface = i := by simp [resvAt]
theorem now_true {r : Resv} {a i now : Int} : resvAtNow r a i now = true ↔ (r.asn = a ∧ r.iface = i) ∧ now ≤ r.till := by
  unfold resvAtNow; rw [Bool.and_eq_true, at_eq, decide_eq_true_eq]
theorem other_false {x y : Resv} : otherResv x y = false ↔ y.id = x.id ∧ y.asn = x.asn ∧ y.iface = x.iface := by
  unfold otherResv
  rw [Bool.or_eq_false_iff, Bool.not_eq_false', at_eq]
  simp
/-- The rate of x itself is counted where it stands. -/
theorem resvd_admit {x : Resv} {l : List Resv} {now : Int} (h : now ≤ x.till) : resvdRate (without x l ++ [x]) x.asn x.iface now = wrap64 (resvdRate (without x l) x.asn x.iface now + x.rate) := by
  unfold resvdRate
  rw [sumRate_app]
  simp only [sumRate]
  rw [if_pos (now_true.2 ⟨⟨rfl, rfl⟩, h⟩)]
theorem resvd_else {x : Resv} {l : List Resv} {a i now : Int} (h : ¬ (x.asn = a ∧ x.iface = i)) : resvdRate (without x l ++ [x]) a i now = resvdRate l a i now := by
  unfold resvdRate
  rw [sumRate_app]
  simp only [sumRate]
  rw [if_neg (fun e => h (now_true.1 e).1)]
  refine sumRate_filter a i now _ l 0 (fun r _ hr => ?_)
  have := other_false.1 hr
  cases hh : resvAtNow r a i now
  · rfl
  · have h2 := (now_true.1 hh).1
    exact absurd ⟨this.2.1.symm.trans h2.1, this.2.2.symm.trans h2.2⟩ h
theorem resvRate_skip (id a i now : Int) : ∀ (l m : List Resv), (∀ r ∈ l, ((r.id == id) && resvAtNow r a i now) = false) → resvRate (l ++ m) id a i now = resvRate m id a i now
  | [], _, _ => rfl
  | r :: l, m, h => by
    rw [List.cons_append, resvRate, h r (by simp)]
    exact resvRate_skip id a i now l m (fun q hq => h q (by simp [hq]))
theorem rate_admit {x : Resv} {l : List Resv} {now : Int} (h : now ≤ x.till) : resvRate (without x l ++ [x]) x.id x.asn x.iface now = x.rate := by
  rw [resvRate_skip]
  · simp [resvRate, now_true.2 ⟨⟨rfl, rfl⟩, h⟩]
  · intro r hr
    have := (List.mem_filter.1 hr).2
    cases hh : (r.id == x.id) && resvAtNow r x.asn x.iface now
    · rfl
    · simp only [Bool.and_eq_true, beq_iff_eq] at hh
      have h2 := (now_true.1 hh.2).1
      rw [other_false.2 ⟨hh.1, h2.1, h2.2⟩] at this
      cases this
theorem rate_none (id a i now : Int) (l : List Resv) (h : ∀ r ∈ l, r.id ≠ id) : resvRate l id a i now = 0 := by
  have := resvRate_skip id a i now l [] (fun r hr => by simp [h r hr])
  rwa [List.append_nil] at this
theorem release_ids {id : Int} {l : List Resv} : ∀ r ∈ release id l, r.id ≠ id := fun r hr => by simpa using (List.mem_filter.1 hr).2
theorem rate_release (id a i now : Int) (l : List Resv) : resvRate (release id l) id a i now = 0 := rate_none _ _ _ _ _ release_ids
theorem resvsOk_iff {l : List Resv} {c now : Int} : resvsOk l c now l.length = true ↔ (∀ x ∈ l, resvFits l c now x = true) ∧ l.Pairwise (fun y x => otherResv x y = true) := by
  unfold resvsOk
  rw [List.all_eq_true]
  constructor
  · intro h
    have hk : ∀ (i : Nat) (hi : i < l.length), resvFits l c now l[i] = true ∧ (l.take i).all (otherResv l[i]) = true := fun i hi => by
      have := h i (List.mem_range.2 hi)
      rw [List.getElem?_eq_getElem hi] at this
      simpa using this
    refine ⟨fun x hx => ?_, ?_⟩
    · obtain ⟨i, hi, rfl⟩ := List.getElem_of_mem hx
      exact (hk i hi).1
    · rw [List.pairwise_iff_getElem]
      intro i j hi hj hij
      have := List.all_eq_true.1 (hk j hj).2 l[i] (List.mem_take_iff_getElem.2 ⟨i, by omega, rfl⟩)
      exact this
  · rintro ⟨h1, h2⟩ i hi
    have hi := List.mem_range.1 hi
    rw [List.getElem?_eq_getElem hi]
    simp only [Bool.and_eq_true]
    refine ⟨h1 _ (List.getElem_mem hi), List.all_eq_true.2 fun y hy => ?_⟩
    obtain ⟨j, hj, rfl⟩ := List.mem_take_iff_getElem.1 hy
    exact List.pairwise_iff_getElem.1 h2 j i (by omega) hi (by omega)
/-- Admitting keeps what was right, right. -/
theorem valid_admit {l : List Resv} {x : Resv} {c now : Int} (hr : refused l x c now = false) (hv : validResvs l c now = true) : validResvs (without x l ++ [x]) c now = true := by
  unfold refused at hr
  simp only [Bool.or_eq_false_iff, Bool.not_eq_false', decide_eq_false_iff_not] at hr
  obtain ⟨⟨⟨hx, ht⟩, hm⟩, hn⟩ := hr
  unfold validResvs at hv ⊢
  rw [Bool.and_eq_true, resvsOk_iff] at hv ⊢
  obtain ⟨hl, hf, hp⟩ := hv
  have hle : resvdRate (without x l ++ [x]) x.asn x.iface now ≤ c := by
    rw [resvd_admit (by omega)]
    unfold tooMuch at hm
    simp only [decide_eq_false_iff_not] at hm
    omega
  refine ⟨by simp; omega, fun y hy => ?_, ?_⟩
  · unfold resvFits
    rw [Bool.and_eq_true, decide_eq_true_eq]
    by_cases he : x.asn = y.asn ∧ x.iface = y.iface
    · refine ⟨?_, by rw [← he.1, ← he.2]; exact hle⟩
      rcases List.mem_append.1 hy with h | h
      · have := hf y (List.mem_filter.1 h).1
        unfold resvFits at this
        simp only [Bool.and_eq_true] at this
        exact this.1
      · rw [List.mem_singleton.1 h]; exact hx
    · have hyl : y ∈ l := by
        rcases List.mem_append.1 hy with h | h
        · exact (List.mem_filter.1 h).1
        · rw [List.mem_singleton.1 h] at he; exact absurd ⟨rfl, rfl⟩ he
      have := hf y hyl
      unfold resvFits at this
      simp only [Bool.and_eq_true, decide_eq_true_eq] at this
      rw [resvd_else he]
      exact this
  · rw [List.pairwise_append]
    refine ⟨hp.filter _, List.pairwise_singleton _ _, fun y hy z hz => ?_⟩
    rw [List.mem_singleton.1 hz]
    exact (List.mem_filter.1 hy).2
theorem admit_ok {l : List Resv} {x : Resv} {c now : Int} (h : (admit l x c now).2 = true) : refused l x c now = false ∧ (admit l x c now).1 = without x l ++ [x] ∧ now ≤ x.till := by
  cases hr : refused l x c now
  · have h2 := hr
    unfold refused at h2
    simp only [Bool.or_eq_false_iff, decide_eq_false_iff_not] at h2
    exact ⟨rfl, by rw [admit_yes hr], by omega⟩
  · unfold admit at h; rw [hr] at h; cases h
theorem admit_bad {l : List Resv} {x : Resv} {c now : Int} (h : (admit l x c now).2 = false) : (admit l x c now).1 = l := by
  cases hr : refused l x c now
  · rw [admit_yes hr] at h; cases h
  · unfold admit; rw [hr]; rfl
end
end Go.Proofs.Ytpijlnfjdajeeaa
