/- Draws of reservations: no more is said of them than their bounds. No condition but the bounds that each theorem names. -/
import Derived.Test.YtkolfiedakojoaaW01d
import Derived.Test.YtkolfiedakojoaaTyReservation
import Derived.Test.YtkolfiedakojoaaW34
import Derived.OwnWalk
namespace Go.Proofs.Ytkolfiedakojoaa
open Go.ChangeShapes Go.WideShapes Go.ChangeAt Go.RowKit Go.Deep

theorem rs_set {w : World} {b : Nat} {x0 x1 x2 x3 x4 : Value} {t : TypeId} (h : w.heap[b]? = some (.cells #[x0, x1, x2, x3, x4] t (0, 0))) (y0 y1 y2 y3 y4 : Value) :
    ∃ w5, w5 = ((((w.setCell ⟨b, 0, none⟩ y0).setCell ⟨b, 1, none⟩ y1).setCell ⟨b, 2, none⟩ y2).setCell ⟨b, 3, none⟩ y3).setCell ⟨b, 4, none⟩ y4 ∧ w5.heap[b]? = some (.cells #[y0, y1, y2, y3, y4] t (0, 0)) ∧ Chg (at1 b) w w5 := by
  refine ⟨_, rfl, by simpa using blk_set (blk_set (blk_set (blk_set (blk_set h 0 y0) 1 y1) 2 y2) 3 y3) 4 y4, ?_⟩
  have q (o : Nat) (u : Value) {wq : World} (h : Chg (at1 b) w wq) := Chg.setC (S := at1 b) (p := ⟨b, o, none⟩) h rfl u
  exact q _ _ (q _ _ (q _ _ (q _ _ (q _ _ (Chg.refl _ w)))))
theorem admit_max40 (l : List Resv) (x : Resv) (c now : Int) (h : l.length ≤ 40) : (admit l x c now).1.length ≤ 40 := by
  cases hr : refused l x c now
  · rw [admit_yes hr]
    have h2 := hr
    unfold refused at h2
    simp only [Bool.or_eq_false_iff, decide_eq_false_iff_not] at h2
    simp; omega
  · unfold admit; rw [hr]; exact h
theorem one_set {w : World} {b : Nat} {arr : Array Value} {t : TypeId} (h : w.heap[b]? = some (.cells arr t (0, 0))) (o : Nat) (u : Value) :
    ∃ w5, w5 = w.setCell ⟨b, o, none⟩ u ∧ w5.heap[b]? = some (.cells (arr.setIfInBounds o u) t (0, 0)) ∧ Chg (at1 b) w w5 := ⟨_, rfl, blk_set h o u, Chg.setC (S := at1 b) (p := ⟨b, o, none⟩) (Chg.refl _ w) rfl u⟩

set_option maxRecDepth 100000 in
set_option maxHeartbeats 2000000 in
theorem s_l32Share (g : Nat)  (cv : Value) (cd : List Int) (w : World) (hc : Cur g cv cd w) :
    Calls Try.prog 106 #[.pointer (some ⟨g, 0, none⟩)] w fun e w' => ∃ x : Resv, e = .returned (.agg #[.int .i64 x.id, .int .i64 x.asn, .int .i64 x.iface, .int .i64 x.rate, .int .i64 x.till]) ∧ 1 ≤ x.id ∧ x.id ≤ 5 ∧ 0 ≤ x.asn ∧ x.asn ≤ 3 ∧ 1 ≤ x.iface ∧ x.iface ≤ 3 ∧ 1 ≤ x.rate ∧ x.rate ≤ 4 ∧ 40 ≤ x.till ∧ x.till ≤ 69 ∧ Cur g cv cd w' ∧ Chg (at1 g) w w' := by
  have hgw := hc.lt
  have hx0 : Ext w (w.alloc (.cells #[.int .i64 0, .int .i64 0, .int .i64 0, .int .i64 0, .int .i64 0] 116)) := (Ext.refl _).alloc _
  have HB0 := Lib.hid (blk_new w (.cells #[.int .i64 0, .int .i64 0, .int .i64 0, .int .i64 0, .int .i64 0] 116))
  go_enter Try.func106, Try.ntmps106
  go_wp2_with fail
  refine (s_l1Below g (5) _ _ _ (hc.ext hx0)).mono ?_
  rintro e w1 ⟨a, rfl, ha0, ha1, hc1, hz1⟩
  have ha2 : a < 5 := by omega
  clear ha1
  go_wp2_with fail
  refine (s_l1Below g (4) _ _ _ hc1).mono ?_
  rintro e w2 ⟨b, rfl, hb0, hb1, hc2, hz2⟩
  have hb2 : b < 4 := by omega
  clear hb1
  go_wp2_with fail
  refine (s_l1Below g (3) _ _ _ hc2).mono ?_
  rintro e w3 ⟨c, rfl, hc0, hc1, hc3, hz3⟩
  have hc2 : c < 3 := by omega
  clear hc1
  go_wp2_with fail
  refine (s_l1Below g (4) _ _ _ hc3).mono ?_
  rintro e w4 ⟨d, rfl, hd0, hd1, hc4, hz4⟩
  have hd2 : d < 4 := by omega
  clear hd1
  go_wp2_with fail
  refine (s_l1Below g (30) _ _ _ hc4).mono ?_
  rintro e w5 ⟨e2, rfl, he20, he21, hc5, hz5⟩
  have he22 : e2 < 30 := by omega
  clear he21
  have HRB := Lib.hid (Chg.blkS ((((hz1.trans hz2).trans hz3).trans hz4).trans hz5) HB0.out (by unfold at1; omega))
  obtain ⟨wq, hwq, hbq, hcq⟩ := rs_set HRB.out (.int .i64 (1 + a)) (.int .i64 b) (.int .i64 (1 + c)) (.int .i64 (1 + d)) (.int .i64 (40 + e2))
  have HWQ := Lib.hid hwq
  have HBQ := Lib.hid hbq
  have HCE := Lib.hid (Chg.up ((((((Chg.ofExt hx0).trans hz1).trans hz2).trans hz3).trans hz4).trans hz5) hcq (fun i hi => .inr (by have h1 : i = w.heap.size := hi; omega)))
  have HCU := Lib.hid (Cur.kept hc hc5 hcq (by unfold at1; omega) HCE.out)
  clear hwq hbq hcq
  have cR := blk5 HRB.out
  have fR0 := fr_of HRB.out 0
  have fR1 := fr_of HRB.out 1
  have fR2 := fr_of HRB.out 2
  have fR3 := fr_of HRB.out 3
  have fR4 := fr_of HRB.out 4
  go_wp2_with fail
  rw [← HWQ.out]
  clear cR fR0 fR1 fR2 fR3 fR4 
  have cc := blk5 HBQ.out
  refine bodyPost_ret (v := .agg #[.int .i64 (1 + a), .int .i64 b, .int .i64 (1 + c), .int .i64 (1 + d), .int .i64 (40 + e2)]) (by simp [results, Try.results106, go_sem, cc]) rfl ?_
  exact ⟨⟨1 + a, b, 1 + c, 1 + d, 40 + e2⟩, rfl, by simp only; omega, by simp only; omega, by simp only; omega, by simp only; omega, by simp only; omega, by simp only; omega, by simp only; omega, by simp only; omega, by simp only; omega, by simp only; omega, HCU.out, HCE.out⟩

set_option maxRecDepth 100000 in
set_option maxHeartbeats 2000000 in
theorem s_l32Any (g : Nat)  (cv : Value) (cd : List Int) (w : World) (hc : Cur g cv cd w) :
    Calls Try.prog 170 #[.pointer (some ⟨g, 0, none⟩)] w fun e w' => ∃ x : Resv, e = .returned (.agg #[.int .i64 x.id, .int .i64 x.asn, .int .i64 x.iface, .int .i64 x.rate, .int .i64 x.till]) ∧ Cur g cv cd w' ∧ Chg (at1 g) w w' := by
  have hgw := hc.lt
  have hx0 : Ext w (w.alloc (.cells #[.int .i64 0, .int .i64 0, .int .i64 0, .int .i64 0, .int .i64 0] 116)) := (Ext.refl _).alloc _
  have HB0 := Lib.hid (blk_new w (.cells #[.int .i64 0, .int .i64 0, .int .i64 0, .int .i64 0, .int .i64 0] 116))
  go_enter Try.func170, Try.ntmps170
  go_wp2_with fail
  refine (s_l32Share g  _ _ _ (hc.ext hx0)).mono ?_
  rintro e w1 ⟨x, rfl, h1, h2, h3, h4, h5, h6, h7, h8, h9, h10, hc1, hz1⟩
  clear h1 h2 h3 h4 h5 h6 h7 h8 h9 h10
  have hxb : Ext w1 (w1.alloc (.cells #[.int .i64 x.id, .int .i64 x.asn, .int .i64 x.iface, .int .i64 x.rate, .int .i64 x.till] 116)) := (Ext.refl _).alloc _
  have HXB := Lib.hid (blk_new w1 (.cells #[.int .i64 x.id, .int .i64 x.asn, .int .i64 x.iface, .int .i64 x.rate, .int .i64 x.till] 116))
  have hgx : w.heap.size < w1.heap.size := by have h1 := hz1.size; simp at h1; omega
  have cf1 := blk5 HXB.out
  go_wp2_with fail
  refine (s_l1Below g (12) _ _ _ (hc1.ext hxb)).mono ?_
  rintro e w2 ⟨q, rfl, hq0, hq1, hc2, hz2⟩
  have hq2 : q < 12 := by omega
  clear hq1
  by_cases q0 : q = 0
  · subst q0
    try clear cf1
    have cf2 := blk5 (Chg.blkS hz2 HXB.out (by first | (unfold at1; omega) | (simp [at1]; omega)))
    go_wp2_with fail
    refine (s_l1Int g [0, 100000, 100001] _ _ _ hc2 (by decide) (by decide)).mono ?_
    rintro e w3 ⟨r, rfl, hmr, hc3, hz3⟩
    have hbr : 0 ≤ r ∧ r ≤ 100001 := by simp at hmr; omega
    obtain ⟨hr0, hr1⟩ := hbr
    clear hmr
    have HXC := Lib.hid (Chg.blkS (hz2.trans hz3) HXB.out (by unfold at1; omega))
    obtain ⟨wx, hwx, hbx, hcx⟩ := one_set HXC.out 0 (.int .i64 r)
    simp only [List.setIfInBounds_toArray, List.set_cons_zero] at hbx
    have HWX := Lib.hid hwx
    have HBX := Lib.hid hbx
    have hxx := Chg.up (((((Chg.ofExt hx0).trans hz1).trans (Chg.ofExt hxb)).trans hz2).trans hz3) hcx (fun i hi => .inr (by have h1 : i = w1.heap.size := hi; omega))
    have hcc := Cur.kept hc hc3 hcx (by unfold at1; omega) hxx
    have HRX := Lib.hid (Chg.blkS hcx (Chg.blkS (((hz1.trans (Chg.ofExt hxb)).trans hz2).trans hz3) HB0.out (by unfold at1; omega)) (by unfold at1; omega))
    have fx := fr_of HXC.out 0
    have cx := blk5 HXC.out
    clear hwx hbx hcx
    go_upto_region 9 with (fail)
    rw [← HWX.out]
    clear fx cx
    obtain ⟨wq, hwq, hbq, hcq⟩ := rs_set HRX.out (.int .i64 r) (.int .i64 x.asn) (.int .i64 x.iface) (.int .i64 x.rate) (.int .i64 x.till)
    have HWQ := Lib.hid hwq
    have HBQ := Lib.hid hbq
    have HCE := Lib.hid (Chg.up hxx hcq (fun i hi => .inr (by have h1 : i = w.heap.size := hi; omega)))
    have HCU := Lib.hid (Cur.kept hc hcc hcq (by unfold at1; omega) HCE.out)
    clear hwq hbq hcq
    have cR := blk5 HRX.out
    have fR0 := fr_of HRX.out 0
    have fR1 := fr_of HRX.out 1
    have fR2 := fr_of HRX.out 2
    have fR3 := fr_of HRX.out 3
    have fR4 := fr_of HRX.out 4
    have cf3 := blk5 HBX.out
    go_wp2_with fail
    rw [← HWQ.out]
    clear cR fR0 fR1 fR2 fR3 fR4 cf3
    have cc := blk5 HBQ.out
    refine bodyPost_ret (v := .agg #[.int .i64 r, .int .i64 x.asn, .int .i64 x.iface, .int .i64 x.rate, .int .i64 x.till]) (by simp [results, Try.results170, go_sem, cc]) rfl ?_
    exact ⟨{ x with id := r }, rfl, HCU.out, HCE.out⟩
  · have q00 : (q == 0) = false := by rw [beq_eq_false_iff_ne]; exact q0
    by_cases q1 : q = 1
    · subst q1
      try clear cf1
      have cf4 := blk5 (Chg.blkS hz2 HXB.out (by first | (unfold at1; omega) | (simp [at1]; omega)))
      go_wp2_with fail
      refine (s_l1Int g [0, 20, 21, -1] _ _ _ hc2 (by decide) (by decide)).mono ?_
      rintro e w4 ⟨r, rfl, hmr, hc4, hz4⟩
      have hbr : -1 ≤ r ∧ r ≤ 21 := by simp at hmr; omega
      obtain ⟨hr0, hr1⟩ := hbr
      clear hmr
      have HXC := Lib.hid (Chg.blkS (hz2.trans hz4) HXB.out (by unfold at1; omega))
      obtain ⟨wx, hwx, hbx, hcx⟩ := one_set HXC.out 3 (.int .i64 r)
      simp only [List.setIfInBounds_toArray, List.set_cons_succ, List.set_cons_zero] at hbx
      have HWX := Lib.hid hwx
      have HBX := Lib.hid hbx
      have hxx := Chg.up (((((Chg.ofExt hx0).trans hz1).trans (Chg.ofExt hxb)).trans hz2).trans hz4) hcx (fun i hi => .inr (by have h1 : i = w1.heap.size := hi; omega))
      have hcc := Cur.kept hc hc4 hcx (by unfold at1; omega) hxx
      have HRX := Lib.hid (Chg.blkS hcx (Chg.blkS (((hz1.trans (Chg.ofExt hxb)).trans hz2).trans hz4) HB0.out (by unfold at1; omega)) (by unfold at1; omega))
      have fx := fr_of HXC.out 3
      have cx := blk5 HXC.out
      clear hwx hbx hcx
      go_upto_region 9 with (fail)
      rw [← HWX.out]
      clear fx cx
      obtain ⟨wq, hwq, hbq, hcq⟩ := rs_set HRX.out (.int .i64 x.id) (.int .i64 x.asn) (.int .i64 x.iface) (.int .i64 r) (.int .i64 x.till)
      have HWQ := Lib.hid hwq
      have HBQ := Lib.hid hbq
      have HCE := Lib.hid (Chg.up hxx hcq (fun i hi => .inr (by have h1 : i = w.heap.size := hi; omega)))
      have HCU := Lib.hid (Cur.kept hc hcc hcq (by unfold at1; omega) HCE.out)
      clear hwq hbq hcq
      have cR := blk5 HRX.out
      have fR0 := fr_of HRX.out 0
      have fR1 := fr_of HRX.out 1
      have fR2 := fr_of HRX.out 2
      have fR3 := fr_of HRX.out 3
      have fR4 := fr_of HRX.out 4
      have cf5 := blk5 HBX.out
      go_wp2_with fail
      rw [← HWQ.out]
      clear cR fR0 fR1 fR2 fR3 fR4 cf5
      have cc := blk5 HBQ.out
      refine bodyPost_ret (v := .agg #[.int .i64 x.id, .int .i64 x.asn, .int .i64 x.iface, .int .i64 r, .int .i64 x.till]) (by simp [results, Try.results170, go_sem, cc]) rfl ?_
      exact ⟨{ x with rate := r }, rfl, HCU.out, HCE.out⟩
    · have q01 : (q == 1) = false := by rw [beq_eq_false_iff_ne]; exact q1
      by_cases q2 : q = 2
      · subst q2
        try clear cf1
        have cf6 := blk5 (Chg.blkS hz2 HXB.out (by first | (unfold at1; omega) | (simp [at1]; omega)))
        go_wp2_with fail
        refine (s_l1Int g [0, 7] _ _ _ hc2 (by decide) (by decide)).mono ?_
        rintro e w5 ⟨r, rfl, hmr, hc5, hz5⟩
        have hbr : 0 ≤ r ∧ r ≤ 7 := by simp at hmr; omega
        obtain ⟨hr0, hr1⟩ := hbr
        clear hmr
        have HXC := Lib.hid (Chg.blkS (hz2.trans hz5) HXB.out (by unfold at1; omega))
        obtain ⟨wx, hwx, hbx, hcx⟩ := one_set HXC.out 2 (.int .i64 r)
        simp only [List.setIfInBounds_toArray, List.set_cons_succ, List.set_cons_zero] at hbx
        have HWX := Lib.hid hwx
        have HBX := Lib.hid hbx
        have hxx := Chg.up (((((Chg.ofExt hx0).trans hz1).trans (Chg.ofExt hxb)).trans hz2).trans hz5) hcx (fun i hi => .inr (by have h1 : i = w1.heap.size := hi; omega))
        have hcc := Cur.kept hc hc5 hcx (by unfold at1; omega) hxx
        have HRX := Lib.hid (Chg.blkS hcx (Chg.blkS (((hz1.trans (Chg.ofExt hxb)).trans hz2).trans hz5) HB0.out (by unfold at1; omega)) (by unfold at1; omega))
        have fx := fr_of HXC.out 2
        have cx := blk5 HXC.out
        clear hwx hbx hcx
        go_upto_region 9 with (fail)
        rw [← HWX.out]
        clear fx cx
        obtain ⟨wq, hwq, hbq, hcq⟩ := rs_set HRX.out (.int .i64 x.id) (.int .i64 x.asn) (.int .i64 r) (.int .i64 x.rate) (.int .i64 x.till)
        have HWQ := Lib.hid hwq
        have HBQ := Lib.hid hbq
        have HCE := Lib.hid (Chg.up hxx hcq (fun i hi => .inr (by have h1 : i = w.heap.size := hi; omega)))
        have HCU := Lib.hid (Cur.kept hc hcc hcq (by unfold at1; omega) HCE.out)
        clear hwq hbq hcq
        have cR := blk5 HRX.out
        have fR0 := fr_of HRX.out 0
        have fR1 := fr_of HRX.out 1
        have fR2 := fr_of HRX.out 2
        have fR3 := fr_of HRX.out 3
        have fR4 := fr_of HRX.out 4
        have cf7 := blk5 HBX.out
        go_wp2_with fail
        rw [← HWQ.out]
        clear cR fR0 fR1 fR2 fR3 fR4 cf7
        have cc := blk5 HBQ.out
        refine bodyPost_ret (v := .agg #[.int .i64 x.id, .int .i64 x.asn, .int .i64 r, .int .i64 x.rate, .int .i64 x.till]) (by simp [results, Try.results170, go_sem, cc]) rfl ?_
        exact ⟨{ x with iface := r }, rfl, HCU.out, HCE.out⟩
      · have q02 : (q == 2) = false := by rw [beq_eq_false_iff_ne]; exact q2
        have HRB := Lib.hid (Chg.blkS ((hz1.trans (Chg.ofExt hxb)).trans hz2) HB0.out (by unfold at1; omega))
        obtain ⟨wq, hwq, hbq, hcq⟩ := rs_set HRB.out (.int .i64 x.id) (.int .i64 x.asn) (.int .i64 x.iface) (.int .i64 x.rate) (.int .i64 x.till)
        have HWQ := Lib.hid hwq
        have HBQ := Lib.hid hbq
        have HCE := Lib.hid (Chg.up ((((Chg.ofExt hx0).trans hz1).trans (Chg.ofExt hxb)).trans hz2) hcq (fun i hi => .inr (by have h1 : i = w.heap.size := hi; omega)))
        have HCU := Lib.hid (Cur.kept hc hc2 hcq (by unfold at1; omega) HCE.out)
        clear hwq hbq hcq
        have cR := blk5 HRB.out
        have fR0 := fr_of HRB.out 0
        have fR1 := fr_of HRB.out 1
        have fR2 := fr_of HRB.out 2
        have fR3 := fr_of HRB.out 3
        have fR4 := fr_of HRB.out 4
        try clear cf1
        have cf8 := blk5 (Chg.blkS hz2 HXB.out (by first | (unfold at1; omega) | (simp [at1]; omega)))
        go_wp2_with fail
        rw [← HWQ.out]
        clear cR fR0 fR1 fR2 fR3 fR4 cf8
        have cc := blk5 HBQ.out
        refine bodyPost_ret (v := .agg #[.int .i64 x.id, .int .i64 x.asn, .int .i64 x.iface, .int .i64 x.rate, .int .i64 x.till]) (by simp [results, Try.results170, go_sem, cc]) rfl ?_
        exact ⟨x, rfl, HCU.out, HCE.out⟩

set_option maxRecDepth 100000 in
set_option maxHeartbeats 4000000 in
theorem s_l32List (g : Nat)  (cv : Value) (cd : List Int) (w : World) (hc : Cur g cv cd w) :
    Calls Try.prog 94 #[.pointer (some ⟨g, 0, none⟩)] w fun e w' => ∃ (v : Value) (l : List Resv), e = .returned v ∧ l.length ≤ 50 ∧ OwnF Resv.f 5 w.heap.size 116 w' v l ∧ Cur g cv cd w' ∧ Chg (at1 g) w w' := by
  obtain ⟨E⟩ := elemResv
  have hgw := hc.lt
  go_enter Try.func94, Try.ntmps94
  go_wp2_with fail
  have hca := hc.ext ((Ext.refl w).alloc (.cells #[] 116))
  have hxa : Chg (at1 g) w (w.alloc (.cells #[] 116)) := Chg.ofExt ((Ext.refl w).alloc _)
  refine (s_l1Below g (8) _ _ _ hca).mono ?_
  rintro e w1 ⟨x, rfl, hx0, hx1, hc1, hz1⟩
  have hx2 : x < 8 := by omega
  clear hx1
  obtain ⟨m, rfl⟩ := Int.eq_ofNat_of_zero_le hx0
  go_wp2_with fail
  go_loopg [3, 4] m (fun gk out i wr => ∃ (k : Nat) (l : List Resv), gk = k ∧ Hid (k ≤ 8) ∧ i = .int .i64 k ∧ l.length ≤ 40 ∧ OwnF Resv.f 5 w.heap.size 116 wr out l ∧ Cur g cv cd wr ∧ Chg (at1 g) w wr)
  case atStart => exact ⟨m, [], rfl, Lib.hid (by omega), rfl, by simp, (OwnF.empty Resv.f 5 w.heap.size 116 w (Nat.le_refl _)).at1 hz1 hgw, hc1, (hxa.trans hz1)⟩
  case round =>
    obtain ⟨k, l, hgk, HK8, rfl, hlk, hown, hcr, hxr⟩ := hrel
    have HGK := Lib.hid hgk; clear hgk hxa hca hc1 hz1
    by_cases hk0 : 0 < k
    · have hk1 : (0 : Int) < k := by omega
      go_wp2_with fail
      refine (s_l32Share g  _ _ _ hcr).mono ?_
      rintro e w2 ⟨x, rfl, h1, h2, h3, h4, h5, h6, h7, h8, h9, h10, hc2, hz2⟩
      clear h1 h2 h3 h4 h5 h6 h7 h8 h9 h10
      have ho1 := hown.at1 hz2 hgw
      have hsz := (hxr.trans hz2).size
      have hmx := admit_max40 l x 8 45 hlk
      go_wp2_with fail
      refine (s_Admit l _ x 8 45 _ (OwnF.rd (hf := Resv.flen) ho1) (by omega)).mono ?_
      rintro e w3 ⟨v2, rfl, ho2, hz3⟩
      have ho3 := ho2.mono hsz
      clear ho2
      go_wp2_with fail
      go_roundg (k - 1)
      case measure => have h1 := HGK.out; omega
      case rel => exact ⟨k - 1, _, rfl, Lib.hid (by have h1 := HK8.out; omega), congrArg (Value.int .i64) (by have h1 := HK8.out; unfold wrap64; omega), hmx, ho3, (hc2.ext hz3), ((hxr.trans hz2).trans (Chg.ofExt hz3))⟩
    · have hk1 : ¬ (0 : Int) < k := by omega
      go_wp2_with fail
      refine (s_l1Once g (10) _ _ _ hcr).mono ?_
      rintro e w4 ⟨b, rfl, hc4, hz4⟩
      cases b
      case false =>
        go_wp2_with fail
        go_ret
        first | exact ⟨_, l, rfl, by omega, hown.at1 hz4 hgw, hc4, (hxr.trans hz4)⟩ | exact ⟨_, rfl, l, by omega, hown.at1 hz4 hgw, hc4, (hxr.trans hz4)⟩
      case true =>
        go_wp2_with fail
        refine (s_l32Any g  _ _ _ hc4).mono ?_
        rintro e w5 ⟨x, rfl, hc5, hz5⟩
        have ho1 := hown.at1 (hz4.trans hz5) hgw
        go_wp2_with (at_builtin; refine app1 E Resv.flen Resv.one rfl _ _ rfl x rfl (OwnF.ext ho1 ((Ext.refl _).alloc _)) rfl (by exact blk_list x.f (blk_new w5 _)) (by omega) (by unfold maxLen; omega) (by have h1 := ((hxr.trans hz4).trans hz5).size; simp; omega) ?_)
        intro v' w' ho' hg'
        have hx' := Chg.app (((hxr.trans hz4).trans hz5).ext ((Ext.refl _).alloc _)) hg' ho1 (Nat.le_refl _)
        have hc' := Cur.app hc (hc5.ext ((Ext.refl _).alloc _)) hg' ho1 (Nat.le_refl _) (((hxr.trans hz4).trans hz5).ext ((Ext.refl _).alloc _))
        clear hg'
        go_wp2_with fail
        go_ret
        first | exact ⟨_, l ++ [x], rfl, by simp; omega, ho', hc', hx'⟩ | exact ⟨_, rfl, l ++ [x], by simp; omega, ho', hc', hx'⟩

end Go.Proofs.Ytkolfiedakojoaa
