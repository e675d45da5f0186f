/- Contracts of the admission of reservations, program and reference. No condition but the bounds that each theorem names. -/
import Derived.Test.YtkolfiedakojoaaW33
namespace Go.Proofs.Ytkolfiedakojoaa
open Go.ChangeShapes Go.WideShapes Go.ChangeAt Go.RowKit Go.Deep

/-- y is not the reservation x's number at x's interface. -/
def otherResv (x y : Resv) : Bool := (y.id != x.id) || !(resvAt y x.asn x.iface)
def without (x : Resv) (l : List Resv) : List Resv := l.filter (otherResv x)
def tooMuch (l : List Resv) (x : Resv) (c now : Int) : Bool := decide (c < wrap64 (resvdRate (without x l) x.asn x.iface now + x.rate))
def refused (l : List Resv) (x : Resv) (c now : Int) : Bool := !(validResv x) || (decide (x.till < now)) || tooMuch l x c now || decide (40 ≤ (without x l).length)
def admit (l : List Resv) (x : Resv) (c now : Int) : List Resv × Bool := if refused l x c now then (l, false) else (without x l ++ [x], true)
theorem admit_no {l : List Resv} {x : Resv} {c now : Int} (h : refused l x c now = true) : admit l x c now = (l, false) := if_pos h
theorem admit_yes {l : List Resv} {x : Resv} {c now : Int} (h : refused l x c now = false) : admit l x c now = (without x l ++ [x], true) := if_neg (by rw [h]; decide)
theorem without_le (x : Resv) (l : List Resv) : (without x l).length ≤ l.length := List.length_filter_le _ _

set_option maxHeartbeats 400000 in
theorem i_copyReservations (l : List Resv) (v : Value) (w : World) (hv : RdS Resv.rep w v l) (hl : l.length ≤ 1099511627776) :
    Calls Try.prog 90 #[v] w fun e w' => ∃ v', e = .returned v' ∧ OwnF Resv.f 5 w.heap.size 116 w' v' l ∧ Ext w w' := by
  obtain ⟨E⟩ := elemResv
  go_enter Try.func90, Try.ntmps90
  go_wp2_with (at_builtin; refine appS E Resv.flen Resv.one rfl _ _ rfl l rfl (OwnF.empty Resv.f 5 w.heap.size _ w (Nat.le_refl _)) rfl (hv.ext ((Ext.refl _).alloc _)) (by first | omega | (simp; omega)) (by first | (unfold maxLen; omega) | (simp [maxLen]; omega)) (by simp) ?_)
  intro v' w' ho' hg'
  have hx' : Ext w w' := ((Ext.refl w).alloc _).app hg' (OwnF.empty Resv.f 5 w.heap.size 116 w (Nat.le_refl _)) (Nat.le_refl _)
  try rw [List.nil_append] at ho'
  clear hg'
  go_wp2
  go_ret
  exact ⟨_, rfl, ho', hx'⟩


set_option maxRecDepth 100000 in
set_option maxHeartbeats 40000000 in
theorem i_Admit (l : List Resv) (v : Value) (x : Resv) (c now : Int) (w : World) (hv : RdS Resv.rep w v l) (hl : l.length ≤ 1048576) :
    Calls Try.prog 91 #[v, .agg #[.int .i64 x.id, .int .i64 x.asn, .int .i64 x.iface, .int .i64 x.rate, .int .i64 x.till], .int .i64 c, .int .i64 now] w fun e w' => ∃ v', e = .returned (.tuple #[v', .bool (admit l x c now).2]) ∧ OwnF Resv.f 5 w.heap.size 116 w' v' (admit l x c now).1 ∧ Ext w w' := by
  obtain ⟨o, cap, rfl, hsm⟩ := hv.shape
  obtain ⟨E⟩ := elemResv
  go_enter Try.func91, Try.ntmps91
  go_wp2
  have hB := blk_new w (.cells #[.int .i64 x.id, .int .i64 x.asn, .int .i64 x.iface, .int .i64 x.rate, .int .i64 x.till] 116)
  have hx0 := (Ext.refl w).alloc (.cells #[.int .i64 x.id, .int .i64 x.asn, .int .i64 x.iface, .int .i64 x.rate, .int .i64 x.till] 116)
  generalize w.alloc (.cells #[.int .i64 x.id, .int .i64 x.asn, .int .i64 x.iface, .int .i64 x.rate, .int .i64 x.till] 116) = W0 at hB hx0 ⊢
  have HB := Lib.hid hB; clear hB
  go_loopw [10, 15] (fun out i wr => ∃ (k : Nat), k ≤ l.length ∧ i = .int .i64 k ∧ OwnF Resv.f 5 W0.heap.size 116 wr out (without x (l.take k)) ∧ Ext W0 wr) (fun _ i _ => l.length - (intOf i).toNat)
  case atStart => exact ⟨0, Nat.zero_le _, rfl, OwnF.nil _ _ _ _ _, Ext.refl _⟩
  case round =>
    obtain ⟨k, hk, rfl, hown, hx⟩ := hrel
    have hbr := hx.block HB.out
    have hcb := blk5 hbr
    have HBr := Lib.hid hbr; clear hbr
    by_cases hlt : k < l.length
    · obtain ⟨b, off, rfl, hc⟩ := Resv.at (hv.ext (hx0.trans hx)) k hlt
      have hln : (without x (l.take k)).length ≤ k := Nat.le_trans (without_le _ _) (List.length_take_le _ _)
      have hcb2 := blk5 (Ext.block ((Ext.refl wr).alloc (.cells #[.int .i64 l[k].id, .int .i64 l[k].asn, .int .i64 l[k].iface, .int .i64 l[k].rate, .int .i64 l[k].till] 116)) HBr.out)
      by_cases hid : (l[k].id != x.id) = true
      · have hnext : without x (l.take k) ++ [l[k]] = without x (l.take (k + 1)) := filter_pos (otherResv x) hlt (by simp only [otherResv, hid, Bool.true_or])
        have HN := Lib.hid hnext; clear hnext
        go_wp2_with (at_builtin; refine app1 E Resv.flen Resv.one rfl _ _ rfl l[k] rfl (OwnF.ext hown (((Ext.refl _).alloc _).alloc _)) rfl (by first | exact blk_list l[k].f (blk_new2 wr _ _) | exact fun j u hu => hu) (by omega) (by unfold maxLen; omega) (by exact ((hx.alloc _).alloc _).size) ?_)
        intro v' w' ho' hg'
        have hx' := ((hx.alloc _).alloc _).app hg' hown (Nat.le_refl _)
        rw [HN.out] at ho'
        clear hg'
        go_wp2
        go_roundw
        case rel => exact ⟨k + 1, by omega, by go_num, ho', hx'⟩
        case measure => simp [intOf]; omega
      · have hid2 : (l[k].id != x.id) = false := by simpa using hid
        clear hid
        go_wp2_with fail
        refine (i_at l[k] _ _ _).mono ?_
        rintro e w1 ⟨rfl, h1⟩
        have hb1 := h1.block (blk_new wr _)
        have hcb1 := blk5 hb1
        have hx1 := (hx.alloc _).trans h1
        cases hat : resvAt l[k] x.asn x.iface
        · have hnext : without x (l.take k) ++ [l[k]] = without x (l.take (k + 1)) := filter_pos (otherResv x) hlt (by simp only [otherResv, hat, Bool.not_false, Bool.or_true])
          have HN := Lib.hid hnext; clear hnext
          have hown1 := hown.ext (((Ext.refl _).alloc _).trans h1)
          go_wp2_with (at_builtin; refine app1 E Resv.flen Resv.one rfl _ _ rfl l[k] rfl (OwnF.ext hown1 ((Ext.refl _).alloc _)) rfl (by first | exact blk_list l[k].f (blk_new w1 _) | exact fun j u hu => hu) (by omega) (by unfold maxLen; omega) (by exact (hx1.alloc _).size) ?_)
          intro v' w' ho' hg'
          have hx' := (hx1.alloc _).app hg' hown1 (Nat.le_refl _)
          rw [HN.out] at ho'
          clear hg'
          go_wp2
          go_roundw
          case rel => exact ⟨k + 1, by omega, by go_num, ho', hx'⟩
          case measure => simp [intOf]; omega
        · have hnext : without x (l.take k) = without x (l.take (k + 1)) := filter_neg (otherResv x) hlt (by simp only [otherResv, hid2, hat, Bool.not_true, Bool.or_false]; decide)
          have HN := Lib.hid hnext; clear hnext
          have hown1 := hown.ext (((Ext.refl _).alloc _).trans h1)
          rw [HN.out] at hown1
          go_wp2_with fail
          go_roundw
          case rel => exact ⟨k + 1, by omega, by go_num, hown1, hx1⟩
          case measure => simp [intOf]; omega
    · rw [List.take_of_length_le (by omega)] at hown
      go_wp2_with fail
      have hrd := OwnF.rd (hf := Resv.flen) hown
      obtain ⟨oo, co, rfl, hso⟩ := hrd.shape
      have hwl := without_le x l
      cases hvx : validResv x
      · refine wp_region_ext (by kernel_rfl) (by kernel_rfl) ?_
        have q0 := ExtW.cell (hcb.1)
        have q1 := ExtW.cell (hcb.2.1)
        have q2 := ExtW.cell (hcb.2.2.1)
        have q3 := ExtW.cell (hcb.2.2.2.1)
        have q4 := ExtW.cell (hcb.2.2.2.2)
        repeat (first | go_big_quiet_step (((first | (go_at_call 165; exact Calls.ext_of (i_ValidReservation x _)) | (go_at_call 166; exact Calls.ext_of (i_ReservedRate (without x l) _ _ _ _ _ (hrd.ext (ExtW.h _))))))) | quiet_step (((first | (go_at_call 165; exact Calls.ext_of (i_ValidReservation x _)) | (go_at_call 166; exact Calls.ext_of (i_ReservedRate (without x l) _ _ _ _ _ (hrd.ext (ExtW.h _))))))))
        refine wpQuiet_nil ?_
        intro w9 hw9
        have h9 : Ext wr w9 := by obtain ⟨y, rfl⟩ := hw9; exact y.h
        clear hw9 q0 q1 q2 q3 q4
        have hno : refused l x c now = true := by simp [refused, hvx]
        have HA := Lib.hid (admit_no hno)
        clear hno
        go_wp2_with fail
        refine (i_copyReservations l _ _ (hv.ext (hx0.trans (hx.trans h9))) (by omega)).mono ?_
        rintro e w8 ⟨v8, rfl, o8, h8⟩
        go_wp2_with fail
        go_ret2
        rw [HA.out]
        exact ⟨v8, rfl, o8.mono (hx0.trans (hx.trans h9)).size, hx0.trans (hx.trans (h9.trans h8))⟩
      · by_cases htl : x.till < now
        · refine wp_region_ext (by kernel_rfl) (by kernel_rfl) ?_
          have q0 := ExtW.cell (hcb.1)
          have q1 := ExtW.cell (hcb.2.1)
          have q2 := ExtW.cell (hcb.2.2.1)
          have q3 := ExtW.cell (hcb.2.2.2.1)
          have q4 := ExtW.cell (hcb.2.2.2.2)
          repeat (first | go_big_quiet_step (((first | (go_at_call 165; exact Calls.ext_of (i_ValidReservation x _)) | (go_at_call 166; exact Calls.ext_of (i_ReservedRate (without x l) _ _ _ _ _ (hrd.ext (ExtW.h _))))))) | quiet_step (((first | (go_at_call 165; exact Calls.ext_of (i_ValidReservation x _)) | (go_at_call 166; exact Calls.ext_of (i_ReservedRate (without x l) _ _ _ _ _ (hrd.ext (ExtW.h _))))))))
          refine wpQuiet_nil ?_
          intro w9 hw9
          have h9 : Ext wr w9 := by obtain ⟨y, rfl⟩ := hw9; exact y.h
          clear hw9 q0 q1 q2 q3 q4
          have hno : refused l x c now = true := by simp [refused, htl]
          have HA := Lib.hid (admit_no hno)
          clear hno
          go_wp2_with fail
          refine (i_copyReservations l _ _ (hv.ext (hx0.trans (hx.trans h9))) (by omega)).mono ?_
          rintro e w8 ⟨v8, rfl, o8, h8⟩
          go_wp2_with fail
          go_ret2
          rw [HA.out]
          exact ⟨v8, rfl, o8.mono (hx0.trans (hx.trans h9)).size, hx0.trans (hx.trans (h9.trans h8))⟩
        · have htl2 : now ≤ x.till := by omega
          have htl3 : decide (x.till < now) = false := by simp [htl]
          by_cases htm : c < wrap64 (resvdRate (without x l) x.asn x.iface now + x.rate)
          · have htm3 : tooMuch l x c now = true := by simp [tooMuch, htm]
            have Htm := Lib.hid htm3; clear htm3
            refine wp_region_ext (by kernel_rfl) (by kernel_rfl) ?_
            have q0 := ExtW.cell (hcb.1)
            have q1 := ExtW.cell (hcb.2.1)
            have q2 := ExtW.cell (hcb.2.2.1)
            have q3 := ExtW.cell (hcb.2.2.2.1)
            have q4 := ExtW.cell (hcb.2.2.2.2)
            repeat (first | go_big_quiet_step (((first | (go_at_call 165; exact Calls.ext_of (i_ValidReservation x _)) | (go_at_call 166; exact Calls.ext_of (i_ReservedRate (without x l) _ _ _ _ _ (hrd.ext (ExtW.h _))))))) | quiet_step (((first | (go_at_call 165; exact Calls.ext_of (i_ValidReservation x _)) | (go_at_call 166; exact Calls.ext_of (i_ReservedRate (without x l) _ _ _ _ _ (hrd.ext (ExtW.h _))))))))
            refine wpQuiet_nil ?_
            intro w9 hw9
            have h9 : Ext wr w9 := by obtain ⟨y, rfl⟩ := hw9; exact y.h
            clear hw9 q0 q1 q2 q3 q4
            have hno : refused l x c now = true := by simp [refused, Htm.out]
            have HA := Lib.hid (admit_no hno)
            clear hno
            go_wp2_with fail
            refine (i_copyReservations l _ _ (hv.ext (hx0.trans (hx.trans h9))) (by omega)).mono ?_
            rintro e w8 ⟨v8, rfl, o8, h8⟩
            go_wp2_with fail
            go_ret2
            rw [HA.out]
            exact ⟨v8, rfl, o8.mono (hx0.trans (hx.trans h9)).size, hx0.trans (hx.trans (h9.trans h8))⟩
          · have htm2 : wrap64 (resvdRate (without x l) x.asn x.iface now + x.rate) ≤ c := by omega
            have htm3 : tooMuch l x c now = false := by simp [tooMuch]; omega
            have Htm := Lib.hid htm3; clear htm3
            by_cases h40 : 40 ≤ (without x l).length
            · have h40i : (40 : Int) ≤ ((without x l).length : Int) := by omega
              refine wp_region_ext (by kernel_rfl) (by kernel_rfl) ?_
              have q0 := ExtW.cell (hcb.1)
              have q1 := ExtW.cell (hcb.2.1)
              have q2 := ExtW.cell (hcb.2.2.1)
              have q3 := ExtW.cell (hcb.2.2.2.1)
              have q4 := ExtW.cell (hcb.2.2.2.2)
              repeat (first | go_big_quiet_step (((first | (go_at_call 165; exact Calls.ext_of (i_ValidReservation x _)) | (go_at_call 166; exact Calls.ext_of (i_ReservedRate (without x l) _ _ _ _ _ (hrd.ext (ExtW.h _))))))) | quiet_step (((first | (go_at_call 165; exact Calls.ext_of (i_ValidReservation x _)) | (go_at_call 166; exact Calls.ext_of (i_ReservedRate (without x l) _ _ _ _ _ (hrd.ext (ExtW.h _))))))))
              refine wpQuiet_nil ?_
              intro w9 hw9
              have h9 : Ext wr w9 := by obtain ⟨y, rfl⟩ := hw9; exact y.h
              clear hw9 q0 q1 q2 q3 q4
              have hno : refused l x c now = true := by simp [refused, h40]
              have HA := Lib.hid (admit_no hno)
              clear hno
              go_wp2_with fail
              refine (i_copyReservations l _ _ (hv.ext (hx0.trans (hx.trans h9))) (by omega)).mono ?_
              rintro e w8 ⟨v8, rfl, o8, h8⟩
              go_wp2_with fail
              go_ret2
              rw [HA.out]
              exact ⟨v8, rfl, o8.mono (hx0.trans (hx.trans h9)).size, hx0.trans (hx.trans (h9.trans h8))⟩
            · have h40i : ((without x l).length : Int) < 40 := by omega
              have h40j : decide ((40 : Int) ≤ ((without x l).length : Int)) = false := by simp; omega
              refine wp_region_ext (by kernel_rfl) (by kernel_rfl) ?_
              have q0 := ExtW.cell (hcb.1)
              have q1 := ExtW.cell (hcb.2.1)
              have q2 := ExtW.cell (hcb.2.2.1)
              have q3 := ExtW.cell (hcb.2.2.2.1)
              have q4 := ExtW.cell (hcb.2.2.2.2)
              repeat (first | go_big_quiet_step (((first | (go_at_call 165; exact Calls.ext_of (i_ValidReservation x _)) | (go_at_call 166; exact Calls.ext_of (i_ReservedRate (without x l) _ _ _ _ _ (hrd.ext (ExtW.h _))))))) | quiet_step (((first | (go_at_call 165; exact Calls.ext_of (i_ValidReservation x _)) | (go_at_call 166; exact Calls.ext_of (i_ReservedRate (without x l) _ _ _ _ _ (hrd.ext (ExtW.h _))))))))
              refine wpQuiet_nil ?_
              intro w9 hw9
              have h9 : Ext wr w9 := by obtain ⟨y, rfl⟩ := hw9; exact y.h
              clear hw9 q0 q1 q2 q3 q4
              have hyes : refused l x c now = false := by simp [refused, hvx, htl3, Htm.out]; omega
              have HA := Lib.hid (admit_yes hyes)
              clear hyes
              have hcb9 := blk5 (h9.block HBr.out)
              go_wp2_with (at_builtin; refine app1 E Resv.flen Resv.one rfl _ _ rfl x rfl (OwnF.ext hown (h9.alloc _)) rfl (by first | exact blk_list x.f (blk_new w9 _) | exact fun j u hu => hu) (by omega) (by unfold maxLen; omega) (by first | exact ((hx.trans h9).alloc _).size | (have := (hx.trans h9).size; omega)) ?_)
              intro v' w' ho' hg'
              have hx' := ((hx.trans h9).alloc _).app hg' hown (Nat.le_refl _)
              clear hg'
              go_wp2
              go_ret2
              rw [HA.out]
              exact ⟨v', rfl, ho'.mono hx0.size, hx0.trans hx'⟩

set_option maxRecDepth 100000 in
set_option maxHeartbeats 40000000 in
theorem s_l32Without (l : List Resv) (v : Value) (x : Resv) (w : World) (hv : RdS Resv.rep w v l) (hl : l.length ≤ 1048576) :
    Calls Try.prog 167 #[v, .agg #[.int .i64 x.id, .int .i64 x.asn, .int .i64 x.iface, .int .i64 x.rate, .int .i64 x.till]] w fun e w' => ∃ v', e = .returned v' ∧ OwnF Resv.f 5 w.heap.size 116 w' v' (without x l) ∧ Ext w w' := by
  obtain ⟨o, cap, rfl, hsm⟩ := hv.shape
  obtain ⟨E⟩ := elemResv
  go_enter Try.func167, Try.ntmps167
  go_wp2
  have hB := blk_new w (.cells #[.int .i64 x.id, .int .i64 x.asn, .int .i64 x.iface, .int .i64 x.rate, .int .i64 x.till] 116)
  have hx0 := (Ext.refl w).alloc (.cells #[.int .i64 x.id, .int .i64 x.asn, .int .i64 x.iface, .int .i64 x.rate, .int .i64 x.till] 116)
  have hown0 := OwnF.empty Resv.f 5 (w.alloc (.cells #[.int .i64 x.id, .int .i64 x.asn, .int .i64 x.iface, .int .i64 x.rate, .int .i64 x.till] 116)).heap.size 116 (w.alloc (.cells #[.int .i64 x.id, .int .i64 x.asn, .int .i64 x.iface, .int .i64 x.rate, .int .i64 x.till] 116)) (Nat.le_refl _)
  rw [nblk_alloc] at hown0
  go_loopw [5, 6] (fun out i wr => ∃ (k : Nat), k ≤ l.length ∧ i = .int .i64 k ∧ OwnF Resv.f 5 (w.heap.size + 1) 116 wr out (without x (l.take k)) ∧ Ext (w.alloc (.cells #[.int .i64 x.id, .int .i64 x.asn, .int .i64 x.iface, .int .i64 x.rate, .int .i64 x.till] 116)) wr) (fun _ i _ => l.length - (intOf i).toNat)
  case atStart => exact ⟨0, Nat.zero_le _, rfl, hown0, (Ext.refl _).alloc _⟩
  case round =>
    clear hown0
    obtain ⟨k, hk, rfl, hown, hx⟩ := hrel
    have hbr := hx.block hB
    have hcb := blk5 hbr
    have hsz : w.heap.size + 1 ≤ wr.heap.size := by have := hx.size; rw [nblk_alloc] at this; exact this
    clear hbr
    by_cases hlt : k < l.length
    · obtain ⟨b, off, rfl, hc⟩ := Resv.at (hv.ext (hx0.trans hx)) k hlt
      have hln : (without x (l.take k)).length ≤ k := Nat.le_trans (without_le _ _) (List.length_take_le _ _)
      have ht : otherResv x l[k] = ((l[k].id != x.id) || (l[k].asn != x.asn) || (l[k].iface != x.iface)) := by
        simp only [otherResv, resvAt, Bool.not_and, Bool.or_assoc, bne]
      have HT := Lib.hid ht; clear ht
      have hlk0 : (0 : Int) ≤ (k : Int) := Int.natCast_nonneg _
      have hlk1 : (k : Int) < (l.length : Int) := by omega
      cases h1 : (l[k].id != x.id)
      · cases h2 : (l[k].asn != x.asn)
        · cases h3 : (l[k].iface != x.iface)
          · have hnext : without x (l.take k) = without x (l.take (k + 1)) := filter_neg (otherResv x) hlt (by rw [HT.out, h1, h2, h3]; decide)
            rw [hnext] at hown
            clear hnext
            go_wp2_with fail
            refine wp_region_ext (by kernel_rfl) (by kernel_rfl) ?_
            have q0 := ExtW.cell (hcb.1)
            have q1 := ExtW.cell (hcb.2.1)
            have q2 := ExtW.cell (hcb.2.2.1)
            have q3 := ExtW.cell (hcb.2.2.2.1)
            have q4 := ExtW.cell (hcb.2.2.2.2)
            have q5 := ExtW.cell (hc.1)
            have q6 := ExtW.cell (hc.2.1)
            have q7 := ExtW.cell (hc.2.2.1)
            have q8 := ExtW.cell (hc.2.2.2.1)
            have q9 := ExtW.cell (hc.2.2.2.2)
            repeat (first | go_big_quiet_step ((fail)) | quiet_step ((fail)))
            refine wpQuiet_nil ?_
            intro w9 hw9
            have h9 : Ext wr w9 := by obtain ⟨y, rfl⟩ := hw9; exact y.h
            clear hw9 q0 q1 q2 q3 q4 q5 q6 q7 q8 q9
            go_wp2_with fail
            go_roundw
            case rel => exact ⟨k + 1, by omega, by go_num, hown.ext h9, hx.trans h9⟩
            case measure => simp [intOf]; omega
          · have hnext : without x (l.take k) ++ [l[k]] = without x (l.take (k + 1)) := filter_pos (otherResv x) hlt (by rw [HT.out, h1, h2, h3]; rfl)
            have HN := Lib.hid hnext; clear hnext
            go_wp2_with fail
            refine wp_region_ext (by kernel_rfl) (by kernel_rfl) ?_
            have q0 := ExtW.cell (hcb.1)
            have q1 := ExtW.cell (hcb.2.1)
            have q2 := ExtW.cell (hcb.2.2.1)
            have q3 := ExtW.cell (hcb.2.2.2.1)
            have q4 := ExtW.cell (hcb.2.2.2.2)
            have q5 := ExtW.cell (hc.1)
            have q6 := ExtW.cell (hc.2.1)
            have q7 := ExtW.cell (hc.2.2.1)
            have q8 := ExtW.cell (hc.2.2.2.1)
            have q9 := ExtW.cell (hc.2.2.2.2)
            repeat (first | go_big_quiet_step ((fail)) | quiet_step ((fail)))
            refine wpQuiet_nil ?_
            intro w9 hw9
            have h9 : Ext wr w9 := by obtain ⟨y, rfl⟩ := hw9; exact y.h
            clear hw9 q0 q1 q2 q3 q4 q5 q6 q7 q8 q9
            have hc9 := Resv.at_ext h9 hc
            have hown9 := hown.ext h9
            go_wp2_with (at_builtin; refine app1 E Resv.flen Resv.one rfl _ _ rfl l[k] rfl (OwnF.ext hown9 ((Ext.refl _).alloc _)) rfl (by first | exact blk_list l[k].f (blk_new w9 _) | exact fun j u hu => hu) (by omega) (by unfold maxLen; omega) (by exact Nat.le_trans (Nat.le_of_eq (nblk_alloc w _).symm) ((hx.trans h9).alloc _).size) ?_)
            intro v' w' ho' hg'
            have hx' := ((hx.trans h9).alloc _).app hg' hown9 (Nat.le_of_eq (nblk_alloc w _))
            rw [HN.out] at ho'
            clear hg'
            go_wp2
            go_roundw
            case rel => exact ⟨k + 1, by omega, by go_num, ho', hx'⟩
            case measure => simp [intOf]; omega
        · have hnext : without x (l.take k) ++ [l[k]] = without x (l.take (k + 1)) := filter_pos (otherResv x) hlt (by rw [HT.out, h1, h2]; rfl)
          have HN := Lib.hid hnext; clear hnext
          go_wp2_with fail
          refine wp_region_ext (by kernel_rfl) (by kernel_rfl) ?_
          have q0 := ExtW.cell (hcb.1)
          have q1 := ExtW.cell (hcb.2.1)
          have q2 := ExtW.cell (hcb.2.2.1)
          have q3 := ExtW.cell (hcb.2.2.2.1)
          have q4 := ExtW.cell (hcb.2.2.2.2)
          have q5 := ExtW.cell (hc.1)
          have q6 := ExtW.cell (hc.2.1)
          have q7 := ExtW.cell (hc.2.2.1)
          have q8 := ExtW.cell (hc.2.2.2.1)
          have q9 := ExtW.cell (hc.2.2.2.2)
          repeat (first | go_big_quiet_step ((fail)) | quiet_step ((fail)))
          refine wpQuiet_nil ?_
          intro w9 hw9
          have h9 : Ext wr w9 := by obtain ⟨y, rfl⟩ := hw9; exact y.h
          clear hw9 q0 q1 q2 q3 q4 q5 q6 q7 q8 q9
          have hc9 := Resv.at_ext h9 hc
          have hown9 := hown.ext h9
          go_wp2_with (at_builtin; refine app1 E Resv.flen Resv.one rfl _ _ rfl l[k] rfl (OwnF.ext hown9 ((Ext.refl _).alloc _)) rfl (by first | exact blk_list l[k].f (blk_new w9 _) | exact fun j u hu => hu) (by omega) (by unfold maxLen; omega) (by exact Nat.le_trans (Nat.le_of_eq (nblk_alloc w _).symm) ((hx.trans h9).alloc _).size) ?_)
          intro v' w' ho' hg'
          have hx' := ((hx.trans h9).alloc _).app hg' hown9 (Nat.le_of_eq (nblk_alloc w _))
          rw [HN.out] at ho'
          clear hg'
          go_wp2
          go_roundw
          case rel => exact ⟨k + 1, by omega, by go_num, ho', hx'⟩
          case measure => simp [intOf]; omega
      · have hnext : without x (l.take k) ++ [l[k]] = without x (l.take (k + 1)) := filter_pos (otherResv x) hlt (by rw [HT.out, h1]; rfl)
        have HN := Lib.hid hnext; clear hnext
        go_wp2_with fail
        refine wp_region_ext (by kernel_rfl) (by kernel_rfl) ?_
        have q0 := ExtW.cell (hcb.1)
        have q1 := ExtW.cell (hcb.2.1)
        have q2 := ExtW.cell (hcb.2.2.1)
        have q3 := ExtW.cell (hcb.2.2.2.1)
        have q4 := ExtW.cell (hcb.2.2.2.2)
        have q5 := ExtW.cell (hc.1)
        have q6 := ExtW.cell (hc.2.1)
        have q7 := ExtW.cell (hc.2.2.1)
        have q8 := ExtW.cell (hc.2.2.2.1)
        have q9 := ExtW.cell (hc.2.2.2.2)
        repeat (first | go_big_quiet_step ((fail)) | quiet_step ((fail)))
        refine wpQuiet_nil ?_
        intro w9 hw9
        have h9 : Ext wr w9 := by obtain ⟨y, rfl⟩ := hw9; exact y.h
        clear hw9 q0 q1 q2 q3 q4 q5 q6 q7 q8 q9
        have hc9 := Resv.at_ext h9 hc
        have hown9 := hown.ext h9
        go_wp2_with (at_builtin; refine app1 E Resv.flen Resv.one rfl _ _ rfl l[k] rfl (OwnF.ext hown9 ((Ext.refl _).alloc _)) rfl (by first | exact blk_list l[k].f (blk_new w9 _) | exact fun j u hu => hu) (by omega) (by unfold maxLen; omega) (by exact Nat.le_trans (Nat.le_of_eq (nblk_alloc w _).symm) ((hx.trans h9).alloc _).size) ?_)
        intro v' w' ho' hg'
        have hx' := ((hx.trans h9).alloc _).app hg' hown9 (Nat.le_of_eq (nblk_alloc w _))
        rw [HN.out] at ho'
        clear hg'
        go_wp2
        go_roundw
        case rel => exact ⟨k + 1, by omega, by go_num, ho', hx'⟩
        case measure => simp [intOf]; omega
    · go_wp2
      go_ret
      rw [List.take_of_length_le (by omega)] at hown
      exact ⟨_, rfl, hown.mono (by omega), hx0.trans hx⟩

set_option maxRecDepth 100000 in
set_option maxHeartbeats 40000000 in
theorem s_Admit (l : List Resv) (v : Value) (x : Resv) (c now : Int) (w : World) (hv : RdS Resv.rep w v l) (hl : l.length ≤ 1048576) :
    Calls Try.prog 92 #[v, .agg #[.int .i64 x.id, .int .i64 x.asn, .int .i64 x.iface, .int .i64 x.rate, .int .i64 x.till], .int .i64 c, .int .i64 now] w fun e w' => ∃ v', e = .returned (.tuple #[v', .bool (admit l x c now).2]) ∧ OwnF Resv.f 5 w.heap.size 116 w' v' (admit l x c now).1 ∧ Ext w w' := by
  obtain ⟨o, cap, rfl, hsm⟩ := hv.shape
  obtain ⟨E⟩ := elemResv
  go_enter Try.func92, Try.ntmps92
  go_wp2_with fail
  have hB := blk_new w (.cells #[.int .i64 x.id, .int .i64 x.asn, .int .i64 x.iface, .int .i64 x.rate, .int .i64 x.till] 116)
  have hx0 := (Ext.refl w).alloc (.cells #[.int .i64 x.id, .int .i64 x.asn, .int .i64 x.iface, .int .i64 x.rate, .int .i64 x.till] 116)
  generalize w.alloc (.cells #[.int .i64 x.id, .int .i64 x.asn, .int .i64 x.iface, .int .i64 x.rate, .int .i64 x.till] 116) = W0 at hB hx0 ⊢
  refine (s_l32Without l _ x _ (hv.ext hx0) hl).mono ?_
  rintro e wr ⟨vo, rfl, hown, hx⟩
  have hbr := hx.block hB
  have hcb := blk5 hbr
  have HBr := Lib.hid hbr; clear hbr hB
  have hrd := OwnF.rd (hf := Resv.flen) hown
  obtain ⟨oo, co, rfl, hso⟩ := hrd.shape
  go_wp2_with fail
  have hwl := without_le x l
  cases hvx : validResv x
  · refine wp_region_ext (by kernel_rfl) (by kernel_rfl) ?_
    have q0 := ExtW.cell (hcb.1)
    have q1 := ExtW.cell (hcb.2.1)
    have q2 := ExtW.cell (hcb.2.2.1)
    have q3 := ExtW.cell (hcb.2.2.2.1)
    have q4 := ExtW.cell (hcb.2.2.2.2)
    repeat (first | go_big_quiet_step (((first | (go_at_call 168; exact Calls.ext_of (s_ValidReservation x _)) | (go_at_call 169; exact Calls.ext_of (s_ReservedRate (without x l) _ _ _ _ _ (hrd.ext (ExtW.h _))))))) | quiet_step (((first | (go_at_call 168; exact Calls.ext_of (s_ValidReservation x _)) | (go_at_call 169; exact Calls.ext_of (s_ReservedRate (without x l) _ _ _ _ _ (hrd.ext (ExtW.h _))))))))
    refine wpQuiet_nil ?_
    intro w9 hw9
    have h9 : Ext wr w9 := by obtain ⟨y, rfl⟩ := hw9; exact y.h
    clear hw9 q0 q1 q2 q3 q4
    have hno : refused l x c now = true := by simp [refused, hvx]
    have HA := Lib.hid (admit_no hno)
    clear hno
    go_wp2_with (at_builtin; refine appS E Resv.flen Resv.one rfl _ _ rfl l rfl (OwnF.empty Resv.f 5 w9.heap.size _ w9 (Nat.le_refl _)) rfl (hv.ext ((hx0.trans (hx.trans h9)).alloc _)) (by first | omega | (simp; omega)) (by first | (unfold maxLen; omega) | (simp [maxLen]; omega)) (by simp) ?_)
    intro v' w' ho' hg'
    have hx' : Ext w9 w' := ((Ext.refl w9).alloc _).app hg' (OwnF.empty Resv.f 5 w9.heap.size 116 w9 (Nat.le_refl _)) (Nat.le_refl _)
    try rw [List.nil_append] at ho'
    clear hg'
    go_wp2
    go_ret2
    rw [HA.out]
    exact ⟨v', rfl, ho'.mono (hx0.trans (hx.trans h9)).size, hx0.trans (hx.trans (h9.trans hx'))⟩
  · by_cases htl : x.till < now
    · refine wp_region_ext (by kernel_rfl) (by kernel_rfl) ?_
      have q0 := ExtW.cell (hcb.1)
      have q1 := ExtW.cell (hcb.2.1)
      have q2 := ExtW.cell (hcb.2.2.1)
      have q3 := ExtW.cell (hcb.2.2.2.1)
      have q4 := ExtW.cell (hcb.2.2.2.2)
      repeat (first | go_big_quiet_step (((first | (go_at_call 168; exact Calls.ext_of (s_ValidReservation x _)) | (go_at_call 169; exact Calls.ext_of (s_ReservedRate (without x l) _ _ _ _ _ (hrd.ext (ExtW.h _))))))) | quiet_step (((first | (go_at_call 168; exact Calls.ext_of (s_ValidReservation x _)) | (go_at_call 169; exact Calls.ext_of (s_ReservedRate (without x l) _ _ _ _ _ (hrd.ext (ExtW.h _))))))))
      refine wpQuiet_nil ?_
      intro w9 hw9
      have h9 : Ext wr w9 := by obtain ⟨y, rfl⟩ := hw9; exact y.h
      clear hw9 q0 q1 q2 q3 q4
      have hno : refused l x c now = true := by simp [refused, htl]
      have HA := Lib.hid (admit_no hno)
      clear hno
      go_wp2_with (at_builtin; refine appS E Resv.flen Resv.one rfl _ _ rfl l rfl (OwnF.empty Resv.f 5 w9.heap.size _ w9 (Nat.le_refl _)) rfl (hv.ext ((hx0.trans (hx.trans h9)).alloc _)) (by first | omega | (simp; omega)) (by first | (unfold maxLen; omega) | (simp [maxLen]; omega)) (by simp) ?_)
      intro v' w' ho' hg'
      have hx' : Ext w9 w' := ((Ext.refl w9).alloc _).app hg' (OwnF.empty Resv.f 5 w9.heap.size 116 w9 (Nat.le_refl _)) (Nat.le_refl _)
      try rw [List.nil_append] at ho'
      clear hg'
      go_wp2
      go_ret2
      rw [HA.out]
      exact ⟨v', rfl, ho'.mono (hx0.trans (hx.trans h9)).size, hx0.trans (hx.trans (h9.trans hx'))⟩
    · have htl2 : now ≤ x.till := by omega
      have htl3 : decide (x.till < now) = false := by simp [htl]
      by_cases htm : c < wrap64 (resvdRate (without x l) x.asn x.iface now + x.rate)
      · have htm3 : tooMuch l x c now = true := by simp [tooMuch, htm]
        have Htm := Lib.hid htm3; clear htm3
        refine wp_region_ext (by kernel_rfl) (by kernel_rfl) ?_
        have q0 := ExtW.cell (hcb.1)
        have q1 := ExtW.cell (hcb.2.1)
        have q2 := ExtW.cell (hcb.2.2.1)
        have q3 := ExtW.cell (hcb.2.2.2.1)
        have q4 := ExtW.cell (hcb.2.2.2.2)
        repeat (first | go_big_quiet_step (((first | (go_at_call 168; exact Calls.ext_of (s_ValidReservation x _)) | (go_at_call 169; exact Calls.ext_of (s_ReservedRate (without x l) _ _ _ _ _ (hrd.ext (ExtW.h _))))))) | quiet_step (((first | (go_at_call 168; exact Calls.ext_of (s_ValidReservation x _)) | (go_at_call 169; exact Calls.ext_of (s_ReservedRate (without x l) _ _ _ _ _ (hrd.ext (ExtW.h _))))))))
        refine wpQuiet_nil ?_
        intro w9 hw9
        have h9 : Ext wr w9 := by obtain ⟨y, rfl⟩ := hw9; exact y.h
        clear hw9 q0 q1 q2 q3 q4
        have hno : refused l x c now = true := by simp [refused, Htm.out]
        have HA := Lib.hid (admit_no hno)
        clear hno
        go_wp2_with (at_builtin; refine appS E Resv.flen Resv.one rfl _ _ rfl l rfl (OwnF.empty Resv.f 5 w9.heap.size _ w9 (Nat.le_refl _)) rfl (hv.ext ((hx0.trans (hx.trans h9)).alloc _)) (by first | omega | (simp; omega)) (by first | (unfold maxLen; omega) | (simp [maxLen]; omega)) (by simp) ?_)
        intro v' w' ho' hg'
        have hx' : Ext w9 w' := ((Ext.refl w9).alloc _).app hg' (OwnF.empty Resv.f 5 w9.heap.size 116 w9 (Nat.le_refl _)) (Nat.le_refl _)
        try rw [List.nil_append] at ho'
        clear hg'
        go_wp2
        go_ret2
        rw [HA.out]
        exact ⟨v', rfl, ho'.mono (hx0.trans (hx.trans h9)).size, hx0.trans (hx.trans (h9.trans hx'))⟩
      · have htm2 : wrap64 (resvdRate (without x l) x.asn x.iface now + x.rate) ≤ c := by omega
        have htm3 : tooMuch l x c now = false := by simp [tooMuch]; omega
        have Htm := Lib.hid htm3; clear htm3
        by_cases h40 : 40 ≤ (without x l).length
        · have h40i : (40 : Int) ≤ ((without x l).length : Int) := by omega
          refine wp_region_ext (by kernel_rfl) (by kernel_rfl) ?_
          have q0 := ExtW.cell (hcb.1)
          have q1 := ExtW.cell (hcb.2.1)
          have q2 := ExtW.cell (hcb.2.2.1)
          have q3 := ExtW.cell (hcb.2.2.2.1)
          have q4 := ExtW.cell (hcb.2.2.2.2)
          repeat (first | go_big_quiet_step (((first | (go_at_call 168; exact Calls.ext_of (s_ValidReservation x _)) | (go_at_call 169; exact Calls.ext_of (s_ReservedRate (without x l) _ _ _ _ _ (hrd.ext (ExtW.h _))))))) | quiet_step (((first | (go_at_call 168; exact Calls.ext_of (s_ValidReservation x _)) | (go_at_call 169; exact Calls.ext_of (s_ReservedRate (without x l) _ _ _ _ _ (hrd.ext (ExtW.h _))))))))
          refine wpQuiet_nil ?_
          intro w9 hw9
          have h9 : Ext wr w9 := by obtain ⟨y, rfl⟩ := hw9; exact y.h
          clear hw9 q0 q1 q2 q3 q4
          have hno : refused l x c now = true := by simp [refused, h40]
          have HA := Lib.hid (admit_no hno)
          clear hno
          go_wp2_with (at_builtin; refine appS E Resv.flen Resv.one rfl _ _ rfl l rfl (OwnF.empty Resv.f 5 w9.heap.size _ w9 (Nat.le_refl _)) rfl (hv.ext ((hx0.trans (hx.trans h9)).alloc _)) (by first | omega | (simp; omega)) (by first | (unfold maxLen; omega) | (simp [maxLen]; omega)) (by simp) ?_)
          intro v' w' ho' hg'
          have hx' : Ext w9 w' := ((Ext.refl w9).alloc _).app hg' (OwnF.empty Resv.f 5 w9.heap.size 116 w9 (Nat.le_refl _)) (Nat.le_refl _)
          try rw [List.nil_append] at ho'
          clear hg'
          go_wp2
          go_ret2
          rw [HA.out]
          exact ⟨v', rfl, ho'.mono (hx0.trans (hx.trans h9)).size, hx0.trans (hx.trans (h9.trans hx'))⟩
        · have h40i : ((without x l).length : Int) < 40 := by omega
          have h40j : decide ((40 : Int) ≤ ((without x l).length : Int)) = false := by simp; omega
          refine wp_region_ext (by kernel_rfl) (by kernel_rfl) ?_
          have q0 := ExtW.cell (hcb.1)
          have q1 := ExtW.cell (hcb.2.1)
          have q2 := ExtW.cell (hcb.2.2.1)
          have q3 := ExtW.cell (hcb.2.2.2.1)
          have q4 := ExtW.cell (hcb.2.2.2.2)
          repeat (first | go_big_quiet_step (((first | (go_at_call 168; exact Calls.ext_of (s_ValidReservation x _)) | (go_at_call 169; exact Calls.ext_of (s_ReservedRate (without x l) _ _ _ _ _ (hrd.ext (ExtW.h _))))))) | quiet_step (((first | (go_at_call 168; exact Calls.ext_of (s_ValidReservation x _)) | (go_at_call 169; exact Calls.ext_of (s_ReservedRate (without x l) _ _ _ _ _ (hrd.ext (ExtW.h _))))))))
          refine wpQuiet_nil ?_
          intro w9 hw9
          have h9 : Ext wr w9 := by obtain ⟨y, rfl⟩ := hw9; exact y.h
          clear hw9 q0 q1 q2 q3 q4
          have hyes : refused l x c now = false := by simp [refused, hvx, htl3, Htm.out]; omega
          have HA := Lib.hid (admit_yes hyes)
          clear hyes
          have hcb9 := blk5 (h9.block HBr.out)
          go_wp2_with (at_builtin; refine app1 E Resv.flen Resv.one rfl _ _ rfl x rfl (OwnF.ext hown (h9.alloc _)) rfl (by first | exact blk_list x.f (blk_new w9 _) | exact fun j u hu => hu) (by omega) (by unfold maxLen; omega) (by first | exact ((hx.trans h9).alloc _).size | (have := (hx.trans h9).size; omega)) ?_)
          intro v' w' ho' hg'
          have hx' := ((hx.trans h9).alloc _).app hg' hown (Nat.le_refl _)
          clear hg'
          go_wp2
          go_ret2
          rw [HA.out]
          exact ⟨v', rfl, ho'.mono hx0.size, hx0.trans hx'⟩

end Go.Proofs.Ytkolfiedakojoaa
