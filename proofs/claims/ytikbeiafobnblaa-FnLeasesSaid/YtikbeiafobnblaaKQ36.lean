/- What these laws need: FnLeases: Draws of reservations: no more is said of them than their bounds. Contracts of the test of a list of reservations, program and reference. What admitting a reservation does: plain laws. The laws' comparison of reservations. -/
import Derived.OwnWalk
import Derived.Test.YtikbeiafobnblaaKQ35
namespace Go.Proofs.Ytikbeiafobnblaa
section
open Go.ChangeShapes Go.WideShapes Go.ChangeAt Go.RowKit Go.Deep
theorem admit_max40 (l : List Resv) (x : Resv) (c now : Int) (h : l.length ≤ 40) : (admit l x c now).1.length ≤ 40 := by
 cases hr : refused l x c now
 ·
  rw [admit_yes hr]
  have h2 := hr
  unfold refused at h2
  simp only [Bool.or_eq_false_iff, decide_eq_false_iff_not] at h2
  simp; omega
 ·
  unfold admit; rw [hr]; exact h
set_option maxRecDepth 100000 in
set_option maxHeartbeats 2000000 in
theorem s_l32Share (g : Nat)  (cv : Value) (cd : List Int) (w : World) (hc : Cur g cv cd w) :
  Calls Try.prog 203 #[.pointer (some ⟨g, 0, none⟩)] w fun e w' => ∃ x : Resv, e = .returned (.agg #[.int .i64 x.id, .int .i64 x.asn, .int .i64 x.iface, .int .i64 x.rate, .int .i64 x.till]) ∧ 1 ≤ x.id ∧ x.id ≤ 5 ∧ 0 ≤ x.asn ∧ x.asn ≤ 3 ∧ 1 ≤ x.iface ∧ x.iface ≤ 3 ∧ 1 ≤ x.rate ∧ x.rate ≤ 4 ∧ 40 ≤ x.till ∧ x.till ≤ 69 ∧ Cur g cv cd w' ∧ Chg (at1 g) w w' := by
 have hgw := hc.lt
 have hx0 : Ext w (w.alloc (.cells #[.int .i64 0, .int .i64 0, .int .i64 0, .int .i64 0, .int .i64 0] 171)) := (Ext.refl _).alloc _
 have HB0 := Lib.hid (blk_new w (.cells #[.int .i64 0, .int .i64 0, .int .i64 0, .int .i64 0, .int .i64 0] 171))
 go_enter Try.func203, Try.ntmps203
 go_wp2_with fail
 refine (s_l1Below g (5) _ _ _ (hc.ext hx0)).mono ?_
 rintro e w1 ⟨a, rfl, ha0, ha1, hc1, hz1⟩
 have ha2 : a < 5 := by omega
 clear ha1
 go_wp2_with fail
 refine (s_l1Below g (4) _ _ _ hc1).mono ?_
 rintro e w2 ⟨b, rfl, hb0, hb1, hc2, hz2⟩
 have hb2 : b < 4 := by omega
 clear hb1
 go_wp2_with fail
 refine (s_l1Below g (3) _ _ _ hc2).mono ?_
 rintro e w3 ⟨c, rfl, hc0, hc1, hc3, hz3⟩
 have hc2 : c < 3 := by omega
 clear hc1
 go_wp2_with fail
 refine (s_l1Below g (4) _ _ _ hc3).mono ?_
 rintro e w4 ⟨d, rfl, hd0, hd1, hc4, hz4⟩
 have hd2 : d < 4 := by omega
 clear hd1
 go_wp2_with fail
 refine (s_l1Below g (30) _ _ _ hc4).mono ?_
 rintro e w5 ⟨e2, rfl, he20, he21, hc5, hz5⟩
 have he22 : e2 < 30 := by omega
 clear he21
 have HRB := Lib.hid (Chg.blkS ((((hz1.trans hz2).trans hz3).trans hz4).trans hz5) HB0.out (by unfold at1; omega))
 obtain ⟨wq, hwq, hbq, hcq⟩ := rs_set HRB.out (.int .i64 (1 + a)) (.int .i64 b) (.int .i64 (1 + c)) (.int .i64 (1 + d)) (.int .i64 (40 + e2))
 have HWQ := Lib.hid hwq
 have HBQ := Lib.hid hbq
 have HCE := Lib.hid (Chg.up ((((((Chg.ofExt hx0).trans hz1).trans hz2).trans hz3).trans hz4).trans hz5) hcq (fun i hi => .inr (by have h1 : i = w.heap.size := hi; omega)))
 have HCU := Lib.hid (Cur.kept hc hc5 hcq (by unfold at1; omega) HCE.out)
 clear hwq hbq hcq
 have cR := blk5 HRB.out
 have fR0 := fr_of HRB.out 0
 have fR1 := fr_of HRB.out 1
 have fR2 := fr_of HRB.out 2
 have fR3 := fr_of HRB.out 3
 have fR4 := fr_of HRB.out 4
 go_wp2_with fail
 rw [← HWQ.out]
 clear cR fR0 fR1 fR2 fR3 fR4 
 have cc := blk5 HBQ.out
 refine bodyPost_ret (v := .agg #[.int .i64 (1 + a), .int .i64 b, .int .i64 (1 + c), .int .i64 (1 + d), .int .i64 (40 + e2)]) (by simp [results, Try.results203, go_sem, cc]) rfl ?_
 exact ⟨⟨1 + a, b, 1 + c, 1 + d, 40 + e2⟩, rfl, by simp only; omega, by simp only; omega, by simp only; omega, by simp only; omega, by simp only; omega, by simp only; omega, by simp only; omega, by simp only; omega, by simp only; omega, by simp only; omega, HCU.out, HCE.out⟩
set_option maxRecDepth 100000 in
set_option maxHeartbeats 2000000 in
theorem s_l32Any (g : Nat)  (cv : Value) (cd : List Int) (w : World) (hc : Cur g cv cd w) :
  Calls Try.prog 204 #[.pointer (some ⟨g, 0, none⟩)] w fun e w' => ∃ x : Resv, e = .returned (.agg #[.int .i64 x.id, .int .i64 x.asn, .int .i64 x.iface, .int .i64 x.rate, .int .i64 x.till]) ∧ Cur g cv cd w' ∧ Chg (at1 g) w w' := by
 have hgw := hc.lt
 have hx0 : Ext w (w.alloc (.cells #[.int .i64 0, .int .i64 0, .int .i64 0, .int .i64 0, .int .i64 0] 171)) := (Ext.refl _).alloc _
 have HB0 := Lib.hid (blk_new w (.cells #[.int .i64 0, .int .i64 0, .int .i64 0, .int .i64 0, .int .i64 0] 171))
 go_enter Try.func204, Try.ntmps204
 go_wp2_with fail
 refine (s_l32Share g  _ _ _ (hc.ext hx0)).mono ?_
 rintro e w1 ⟨x, rfl, h1, h2, h3, h4, h5, h6, h7, h8, h9, h10, hc1, hz1⟩
 clear h1 h2 h3 h4 h5 h6 h7 h8 h9 h10
 have hxb : Ext w1 (w1.alloc (.cells #[.int .i64 x.id, .int .i64 x.asn, .int .i64 x.iface, .int .i64 x.rate, .int .i64 x.till] 171)) := (Ext.refl _).alloc _
 have HXB := Lib.hid (blk_new w1 (.cells #[.int .i64 x.id, .int .i64 x.asn, .int .i64 x.iface, .int .i64 x.rate, .int .i64 x.till] 171))
 have hgx : w.heap.size < w1.heap.size := by have h1 := hz1.size; simp at h1; omega
 have cf1 := blk5 HXB.out
 go_wp2_with fail
 refine (s_l1Below g (12) _ _ _ (hc1.ext hxb)).mono ?_
 rintro e w2 ⟨q, rfl, hq0, hq1, hc2, hz2⟩
 have hq2 : q < 12 := by omega
 clear hq1
 by_cases q0 : q = 0
 ·
  subst q0
  try clear cf1
  have cf2 := blk5 (Chg.blkS hz2 HXB.out (by first | (unfold at1; omega) | (simp [at1]; omega)))
  go_wp2_with fail
  refine (s_l1Int g [0, 100000, 100001] _ _ _ hc2 (by decide) (by decide)).mono ?_
  rintro e w3 ⟨r, rfl, hmr, hc3, hz3⟩
  have hbr : 0 ≤ r ∧ r ≤ 100001 := by simp at hmr; omega
  obtain ⟨hr0, hr1⟩ := hbr
  clear hmr
  have HXC := Lib.hid (Chg.blkS (hz2.trans hz3) HXB.out (by unfold at1; omega))
  obtain ⟨wx, hwx, hbx, hcx⟩ := one_set HXC.out 0 (.int .i64 r)
  simp only [List.setIfInBounds_toArray, List.set_cons_zero] at hbx
  have HWX := Lib.hid hwx
  have HBX := Lib.hid hbx
  have hxx := Chg.up (((((Chg.ofExt hx0).trans hz1).trans (Chg.ofExt hxb)).trans hz2).trans hz3) hcx (fun i hi => .inr (by have h1 : i = w1.heap.size := hi; omega))
  have hcc := Cur.kept hc hc3 hcx (by unfold at1; omega) hxx
  have HRX := Lib.hid (Chg.blkS hcx (Chg.blkS (((hz1.trans (Chg.ofExt hxb)).trans hz2).trans hz3) HB0.out (by unfold at1; omega)) (by unfold at1; omega))
  have fx := fr_of HXC.out 0
  have cx := blk5 HXC.out
  clear hwx hbx hcx
  go_upto_region 9 with (fail)
  rw [← HWX.out]
  clear fx cx
  obtain ⟨wq, hwq, hbq, hcq⟩ := rs_set HRX.out (.int .i64 r) (.int .i64 x.asn) (.int .i64 x.iface) (.int .i64 x.rate) (.int .i64 x.till)
  have HWQ := Lib.hid hwq
  have HBQ := Lib.hid hbq
  have HCE := Lib.hid (Chg.up hxx hcq (fun i hi => .inr (by have h1 : i = w.heap.size := hi; omega)))
  have HCU := Lib.hid (Cur.kept hc hcc hcq (by unfold at1; omega) HCE.out)
  clear hwq hbq hcq
  have cR := blk5 HRX.out
  have fR0 := fr_of HRX.out 0
  have fR1 := fr_of HRX.out 1
  have fR2 := fr_of HRX.out 2
  have fR3 := fr_of HRX.out 3
  have fR4 := fr_of HRX.out 4
  have cf3 := blk5 HBX.out
  go_wp2_with fail
  rw [← HWQ.out]
  clear cR fR0 fR1 fR2 fR3 fR4 cf3
  have cc := blk5 HBQ.out
  refine bodyPost_ret (v := .agg #[.int .i64 r, .int .i64 x.asn, .int .i64 x.iface, .int .i64 x.rate, .int .i64 x.till]) (by simp [results, Try.results204, go_sem, cc]) rfl ?_
  exact ⟨{ x with id := r }, rfl, HCU.out, HCE.out⟩
 ·
  have q00 : (q == 0) = false := by rw [beq_eq_false_iff_ne]; exact q0
  by_cases q1 : q = 1
  ·
   subst q1
   try clear cf1
   have cf4 := blk5 (Chg.blkS hz2 HXB.out (by first | (unfold at1; omega) | (simp [at1]; omega)))
   go_wp2_with fail
   refine (s_l1Int g [0, 20, 21, -1] _ _ _ hc2 (by decide) (by decide)).mono ?_
   rintro e w4 ⟨r, rfl, hmr, hc4, hz4⟩
   have hbr : -1 ≤ r ∧ r ≤ 21 := by simp at hmr; omega
   obtain ⟨hr0, hr1⟩ := hbr
   clear hmr
   have HXC := Lib.hid (Chg.blkS (hz2.trans hz4) HXB.out (by unfold at1; omega))
   obtain ⟨wx, hwx, hbx, hcx⟩ := one_set HXC.out 3 (.int .i64 r)
   simp only [List.setIfInBounds_toArray, List.set_cons_succ, List.set_cons_zero] at hbx
   have HWX := Lib.hid hwx
   have HBX := Lib.hid hbx
   have hxx := Chg.up (((((Chg.ofExt hx0).trans hz1).trans (Chg.ofExt hxb)).trans hz2).trans hz4) hcx (fun i hi => .inr (by have h1 : i = w1.heap.size := hi; omega))
   have hcc := Cur.kept hc hc4 hcx (by unfold at1; omega) hxx
   have HRX := Lib.hid (Chg.blkS hcx (Chg.blkS (((hz1.trans (Chg.ofExt hxb)).trans hz2).trans hz4) HB0.out (by unfold at1; omega)) (by unfold at1; omega))
   have fx := fr_of HXC.out 3
   have cx := blk5 HXC.out
   clear hwx hbx hcx
   go_upto_region 9 with (fail)
   rw [← HWX.out]
   clear fx cx
   obtain ⟨wq, hwq, hbq, hcq⟩ := rs_set HRX.out (.int .i64 x.id) (.int .i64 x.asn) (.int .i64 x.iface) (.int .i64 r) (.int .i64 x.till)
   have HWQ := Lib.hid hwq
   have HBQ := Lib.hid hbq
   have HCE := Lib.hid (Chg.up hxx hcq (fun i hi => .inr (by have h1 : i = w.heap.size := hi; omega)))
   have HCU := Lib.hid (Cur.kept hc hcc hcq (by unfold at1; omega) HCE.out)
   clear hwq hbq hcq
   have cR := blk5 HRX.out
   have fR0 := fr_of HRX.out 0
   have fR1 := fr_of HRX.out 1
   have fR2 := fr_of HRX.out 2
   have fR3 := fr_of HRX.out 3
   have fR4 := fr_of HRX.out 4
   have cf5 := blk5 HBX.out
   go_wp2_with fail
   rw [← HWQ.out]
   clear cR fR0 fR1 fR2 fR3 fR4 cf5
   have cc := blk5 HBQ.out
   refine bodyPost_ret (v := .agg #[.int .i64 x.id, .int .i64 x.asn, .int .i64 x.iface, .int .i64 r, .int .i64 x.till]) (by simp [results, Try.results204, go_sem, cc]) rfl ?_
   exact ⟨{ x with rate := r }, rfl, HCU.out, HCE.out⟩
  ·
   have q01 : (q == 1) = false := by rw [beq_eq_false_iff_ne]; exact q1
   by_cases q2 : q = 2
   ·
    subst q2
    try clear cf1
    have cf6 := blk5 (Chg.blkS hz2 HXB.out (by first | (unfold at1; omega) | (simp [at1]; omega)))
    go_wp2_with fail
    refine (s_l1Int g [0, 7] _ _ _ hc2 (by decide) (by decide)).mono ?_
    rintro e w5 ⟨r, rfl, hmr, hc5, hz5⟩
    have hbr : 0 ≤ r ∧ r ≤ 7 := by simp at hmr; omega
    obtain ⟨hr0, hr1⟩ := hbr
    clear hmr
    have HXC := Lib.hid (Chg.blkS (hz2.trans hz5) HXB.out (by unfold at1; omega))
    obtain ⟨wx, hwx, hbx, hcx⟩ := one_set HXC.out 2 (.int .i64 r)
    simp only [List.setIfInBounds_toArray, List.set_cons_succ, List.set_cons_zero] at hbx
    have HWX := Lib.hid hwx
    have HBX := Lib.hid hbx
    have hxx := Chg.up (((((Chg.ofExt hx0).trans hz1).trans (Chg.ofExt hxb)).trans hz2).trans hz5) hcx (fun i hi => .inr (by have h1 : i = w1.heap.size := hi; omega))
    have hcc := Cur.kept hc hc5 hcx (by unfold at1; omega) hxx
    have HRX := Lib.hid (Chg.blkS hcx (Chg.blkS (((hz1.trans (Chg.ofExt hxb)).trans hz2).trans hz5) HB0.out (by unfold at1; omega)) (by unfold at1; omega))
    have fx := fr_of HXC.out 2
    have cx := blk5 HXC.out
    clear hwx hbx hcx
    go_upto_region 9 with (fail)
    rw [← HWX.out]
    clear fx cx
    obtain ⟨wq, hwq, hbq, hcq⟩ := rs_set HRX.out (.int .i64 x.id) (.int .i64 x.asn) (.int .i64 r) (.int .i64 x.rate) (.int .i64 x.till)
    have HWQ := Lib.hid hwq
    have HBQ := Lib.hid hbq
    have HCE := Lib.hid (Chg.up hxx hcq (fun i hi => .inr (by have h1 : i = w.heap.size := hi; omega)))
    have HCU := Lib.hid (Cur.kept hc hcc hcq (by unfold at1; omega) HCE.out)
    clear hwq hbq hcq
    have cR := blk5 HRX.out
    have fR0 := fr_of HRX.out 0
    have fR1 := fr_of HRX.out 1
    have fR2 := fr_of HRX.out 2
    have fR3 := fr_of HRX.out 3
    have fR4 := fr_of HRX.out 4
    have cf7 := blk5 HBX.out
    go_wp2_with fail
    rw [← HWQ.out]
    clear cR fR0 fR1 fR2 fR3 fR4 cf7
    have cc := blk5 HBQ.out
    refine bodyPost_ret (v := .agg #[.int .i64 x.id, .int .i64 x.asn, .int .i64 r, .int .i64 x.rate, .int .i64 x.till]) (by simp [results, Try.results204, go_sem, cc]) rfl ?_
    exact ⟨{ x with iface := r }, rfl, HCU.out, HCE.out⟩
   ·
    have q02 : (q == 2) = false := by rw [beq_eq_false_iff_ne]; exact q2
    have HRB := Lib.hid (Chg.blkS ((hz1.trans (Chg.ofExt hxb)).trans hz2) HB0.out (by unfold at1; omega))
    obtain ⟨wq, hwq, hbq, hcq⟩ := rs_set HRB.out (.int .i64 x.id) (.int .i64 x.asn) (.int .i64 x.iface) (.int .i64 x.rate) (.int .i64 x.till)
    have HWQ := Lib.hid hwq
    have HBQ := Lib.hid hbq
    have HCE := Lib.hid (Chg.up ((((Chg.ofExt hx0).trans hz1).trans (Chg.ofExt hxb)).trans hz2) hcq (fun i hi => .inr (by have h1 : i = w.heap.size := hi; omega)))
    have HCU := Lib.hid (Cur.kept hc hc2 hcq (by unfold at1; omega) HCE.out)
    clear hwq hbq hcq
    have cR := blk5 HRB.out
    have fR0 := fr_of HRB.out 0
    have fR1 := fr_of HRB.out 1
    have fR2 := fr_of HRB.out 2
    have fR3 := fr_of HRB.out 3
    have fR4 := fr_of HRB.out 4
    try clear cf1
    have cf8 := blk5 (Chg.blkS hz2 HXB.out (by first | (unfold at1; omega) | (simp [at1]; omega)))
    go_wp2_with fail
    rw [← HWQ.out]
    clear cR fR0 fR1 fR2 fR3 fR4 cf8
    have cc := blk5 HBQ.out
    refine bodyPost_ret (v := .agg #[.int .i64 x.id, .int .i64 x.asn, .int .i64 x.iface, .int .i64 x.rate, .int .i64 x.till]) (by simp [results, Try.results204, go_sem, cc]) rfl ?_
    exact ⟨x, rfl, HCU.out, HCE.out⟩
set_option maxRecDepth 100000 in
set_option maxHeartbeats 4000000 in
theorem s_l32List (g : Nat)  (cv : Value) (cd : List Int) (w : World) (hc : Cur g cv cd w) :
  Calls Try.prog 144 #[.pointer (some ⟨g, 0, none⟩)] w fun e w' => ∃ (v : Value) (l : List Resv), e = .returned v ∧ l.length ≤ 50 ∧ OwnF Resv.f 5 w.heap.size 171 w' v l ∧ Cur g cv cd w' ∧ Chg (at1 g) w w' := by
 obtain ⟨E⟩ := elemResv
 have hgw := hc.lt
 go_enter Try.func144, Try.ntmps144
 go_wp2_with fail
 have hca := hc.ext ((Ext.refl w).alloc (.cells #[] 171))
 have hxa : Chg (at1 g) w (w.alloc (.cells #[] 171)) := Chg.ofExt ((Ext.refl w).alloc _)
 refine (s_l1Below g (8) _ _ _ hca).mono ?_
 rintro e w1 ⟨x, rfl, hx0, hx1, hc1, hz1⟩
 have hx2 : x < 8 := by omega
 clear hx1
 obtain ⟨m, rfl⟩ := Int.eq_ofNat_of_zero_le hx0
 go_wp2_with fail
 go_loopg [3, 4] m (fun gk out i wr => ∃ (k : Nat) (l : List Resv), gk = k ∧ Hid (k ≤ 8) ∧ i = .int .i64 k ∧ l.length ≤ 40 ∧ OwnF Resv.f 5 w.heap.size 171 wr out l ∧ Cur g cv cd wr ∧ Chg (at1 g) w wr)
 case atStart => exact ⟨m, [], rfl, Lib.hid (by omega), rfl, by simp, (OwnF.empty Resv.f 5 w.heap.size 171 w (Nat.le_refl _)).at1 hz1 hgw, hc1, (hxa.trans hz1)⟩
 case round =>
  obtain ⟨k, l, hgk, HK8, rfl, hlk, hown, hcr, hxr⟩ := hrel
  have HGK := Lib.hid hgk; clear hgk hxa hca hc1 hz1
  by_cases hk0 : 0 < k
  ·
   have hk1 : (0 : Int) < k := by omega
   go_wp2_with fail
   refine (s_l32Share g  _ _ _ hcr).mono ?_
   rintro e w2 ⟨x, rfl, h1, h2, h3, h4, h5, h6, h7, h8, h9, h10, hc2, hz2⟩
   clear h1 h2 h3 h4 h5 h6 h7 h8 h9 h10
   have ho1 := hown.at1 hz2 hgw
   have hsz := (hxr.trans hz2).size
   have hmx := admit_max40 l x 8 45 hlk
   go_wp2_with fail
   refine (s_Admit l _ x 8 45 _ (OwnF.rd (hf := Resv.flen) ho1) (by omega)).mono ?_
   rintro e w3 ⟨v2, rfl, ho2, hz3⟩
   have ho3 := ho2.mono hsz
   clear ho2
   go_wp2_with fail
   go_roundg (k - 1)
   case measure => have h1 := HGK.out; omega
   case rel => exact ⟨k - 1, _, rfl, Lib.hid (by have h1 := HK8.out; omega), congrArg (Value.int .i64) (by have h1 := HK8.out; unfold wrap64; omega), hmx, ho3, (hc2.ext hz3), ((hxr.trans hz2).trans (Chg.ofExt hz3))⟩
  ·
   have hk1 : ¬ (0 : Int) < k := by omega
   go_wp2_with fail
   refine (s_l1Once g (10) _ _ _ hcr).mono ?_
   rintro e w4 ⟨b, rfl, hc4, hz4⟩
   cases b
   case false =>
    go_wp2_with fail
    go_ret
    first | exact ⟨_, l, rfl, by omega, hown.at1 hz4 hgw, hc4, (hxr.trans hz4)⟩ | exact ⟨_, rfl, l, by omega, hown.at1 hz4 hgw, hc4, (hxr.trans hz4)⟩
   case true =>
    go_wp2_with fail
    refine (s_l32Any g  _ _ _ hc4).mono ?_
    rintro e w5 ⟨x, rfl, hc5, hz5⟩
    have ho1 := hown.at1 (hz4.trans hz5) hgw
    go_wp2_with (at_builtin; refine app1 E Resv.flen Resv.one rfl _ _ rfl x rfl (OwnF.ext ho1 ((Ext.refl _).alloc _)) rfl (by exact blk_list x.f (blk_new w5 _)) (by omega) (by unfold maxLen; omega) (by have h1 := ((hxr.trans hz4).trans hz5).size; simp; omega) ?_)
    intro v' w' ho' hg'
    have hx' := Chg.app (((hxr.trans hz4).trans hz5).ext ((Ext.refl _).alloc _)) hg' ho1 (Nat.le_refl _)
    have hc' := Cur.app hc (hc5.ext ((Ext.refl _).alloc _)) hg' ho1 (Nat.le_refl _) (((hxr.trans hz4).trans hz5).ext ((Ext.refl _).alloc _))
    clear hg'
    go_wp2_with fail
    go_ret
    first | exact ⟨_, l ++ [x], rfl, by simp; omega, ho', hc', hx'⟩ | exact ⟨_, rfl, l ++ [x], by simp; omega, ho', hc', hx'⟩
end
section
open Go.ChangeShapes Go.WideShapes Go.ChangeAt Go.RowKit Go.Deep
def resvFits (l : List Resv) (c now : Int) (x : Resv) : Bool := validResv x && decide (resvdRate l x.asn x.iface now ≤ c)
/-- Each fits, and none has the number and the interface of one before it. -/
def resvsOk (l : List Resv) (c now : Int) (k : Nat) : Bool := (List.range k).all fun i => match l[i]? with
 | none => true
 | some x => resvFits l c now x && (l.take i).all (otherResv x)
def validResvs (l : List Resv) (c now : Int) : Bool := decide (l.length ≤ 40) && resvsOk l c now l.length
end
section
open Go.RowKit
theorem sumRate_app (a i now : Int) : ∀ (l m : List Resv) (n : Int), sumRate a i now (l ++ m) n = sumRate a i now m (sumRate a i now l n)
  | [], _, _ => rfl
  | r :: l, m, n => by simp only [List.cons_append, sumRate]; exact sumRate_app a i now l m _
/-- Those that stand at another place count for nothing. -/
theorem sumRate_filter (a i now : Int) (p : Resv → Bool) : ∀ (l : List Resv) (n : Int), (∀ r ∈ l, p r = false → resvAtNow r a i now = false) → sumRate a i now (l.filter p) n = sumRate a i now l n
  | [], _, _ => rfl
  | r :: l, n, h => by
    have ih := fun n => sumRate_filter a i now p l n (fun q hq => h q (by simp [hq]))
    cases hp : p r
    · rw [List.filter_cons_of_neg (by simp [hp]), ih]
      simp [sumRate, h r (by simp) hp]
    · rw [List.filter_cons_of_pos hp]
      simp only [sumRate]
      exact ih _
theorem at_eq {r : Resv} {a i : Int} : resvAt r a i = true ↔ r.asn = a ∧ r.iface = i := by simp [resvAt]
theorem now_true {r : Resv} {a i now : Int} : resvAtNow r a i now = true ↔ (r.asn = a ∧ r.iface = i) ∧ now ≤ r.till := by
  unfold resvAtNow; rw [Bool.and_eq_true, at_eq, decide_eq_true_eq]
theorem other_false {x y : Resv} : otherResv x y = false ↔ y.id = x.id ∧ y.asn = x.asn ∧ y.iface = x.iface := by
  unfold otherResv
  rw [Bool.or_eq_false_iff, Bool.not_eq_false', at_eq]
  simp
/-- The rate of x itself is counted where it stands. -/
theorem resvd_admit {x : Resv} {l : List Resv} {now : Int} (h : now ≤ x.till) : resvdRate (without x l ++ [x]) x.asn x.iface now = wrap64 (resvdRate (without x l) x.asn x.iface now + x.rate) := by
  unfold resvdRate
  rw [sumRate_app]
  simp only [sumRate]
  rw [if_pos (now_true.2 ⟨⟨rfl, rfl⟩, h⟩)]
theorem resvd_else {x : Resv} {l : List Resv} {a i now : Int} (h : ¬ (x.asn = a ∧ x.iface = i)) : resvdRate (without x l ++ [x]) a i now = resvdRate l a i now := by
  unfold resvdRate
  rw [sumRate_app]
  simp only [sumRate]
  rw [if_neg (fun e => h (now_true.1 e).1)]
  refine sumRate_filter a i now _ l 0 (fun r _ hr => ?_)
  have := other_false.1 hr
  cases hh : resvAtNow r a i now
  · rfl
  · have h2 := (now_true.1 hh).1
    exact absurd ⟨this.2.1.symm.trans h2.1, this.2.2.symm.trans h2.2⟩ h
theorem resvRate_skip (id a i now : Int) : ∀ (l m : List Resv), (∀ r ∈ l, ((r.id == id) && resvAtNow r a i now) = false) → resvRate (l ++ m) id a i now = resvRate m id a i now
  | [], _, _ => rfl
  | r :: l, m, h => by
    rw [List.cons_append, resvRate, h r (by simp)]
    exact resvRate_skip id a i now l m (fun q hq => h q (by simp [hq]))
theorem rate_admit {x : Resv} {l : List Resv} {now : Int} (h : now ≤ x.till) : resvRate (without x l ++ [x]) x.id x.asn x.iface now = x.rate := by
  rw [resvRate_skip]
  · simp [resvRate, now_true.2 ⟨⟨rfl, rfl⟩, h⟩]
  · intro r hr
    have := (List.mem_filter.1 hr).2
    cases hh : (r.id == x.id) && resvAtNow r x.asn x.iface now
    · rfl
    · simp only [Bool.and_eq_true, beq_iff_eq] at hh
      have h2 := (now_true.1 hh.2).1
      rw [other_false.2 ⟨hh.1, h2.1, h2.2⟩] at this
      cases this
theorem rate_none (id a i now : Int) (l : List Resv) (h : ∀ r ∈ l, r.id ≠ id) : resvRate l id a i now = 0 := by
  have := resvRate_skip id a i now l [] (fun r hr => by simp [h r hr])
  rwa [List.append_nil] at this
theorem release_ids {id : Int} {l : List Resv} : ∀ r ∈ release id l, r.id ≠ id := fun r hr => by simpa using (List.mem_filter.1 hr).2
theorem rate_release (id a i now : Int) (l : List Resv) : resvRate (release id l) id a i now = 0 := rate_none _ _ _ _ _ release_ids
theorem resvsOk_iff {l : List Resv} {c now : Int} : resvsOk l c now l.length = true ↔ (∀ x ∈ l, resvFits l c now x = true) ∧ l.Pairwise (fun y x => otherResv x y = true) := by
  unfold resvsOk
  rw [List.all_eq_true]
  constructor
  · intro h
    have hk : ∀ (i : Nat) (hi : i < l.length), resvFits l c now l[i] = true ∧ (l.take i).all (otherResv l[i]) = true := fun i hi => by
      have := h i (List.mem_range.2 hi)
      rw [List.getElem?_eq_getElem hi] at this
      simpa using this
    refine ⟨fun x hx => ?_, ?_⟩
    · obtain ⟨i, hi, rfl⟩ := List.getElem_of_mem hx
      exact (hk i hi).1
    · rw [List.pairwise_iff_getElem]
      intro i j hi hj hij
      have := List.all_eq_true.1 (hk j hj).2 l[i] (List.mem_take_iff_getElem.2 ⟨i, by omega, rfl⟩)
      exact this
  · rintro ⟨h1, h2⟩ i hi
    have hi := List.mem_range.1 hi
    rw [List.getElem?_eq_getElem hi]
    simp only [Bool.and_eq_true]
    refine ⟨h1 _ (List.getElem_mem hi), List.all_eq_true.2 fun y hy => ?_⟩
    obtain ⟨j, hj, rfl⟩ := List.mem_take_iff_getElem.1 hy
    exact List.pairwise_iff_getElem.1 h2 j i (by omega) hi (by omega)
/-- Admitting keeps what was right, right. -/
theorem valid_admit {l : List Resv} {x : Resv} {c now : Int} (hr : refused l x c now = false) (hv : validResvs l c now = true) : validResvs (without x l ++ [x]) c now = true := by
  unfold refused at hr
  simp only [Bool.or_eq_false_iff, Bool.not_eq_false', decide_eq_false_iff_not] at hr
  obtain ⟨⟨⟨hx, ht⟩, hm⟩, hn⟩ := hr
  unfold validResvs at hv ⊢
  rw [Bool.and_eq_true, resvsOk_iff] at hv ⊢
  obtain ⟨hl, hf, hp⟩ := hv
  have hle : resvdRate (without x l ++ [x]) x.asn x.iface now ≤ c := by
    rw [resvd_admit (by omega)]
    unfold tooMuch at hm
    simp only [decide_eq_false_iff_not] at hm
    omega
  refine ⟨by simp; omega, fun y hy => ?_, ?_⟩
  · unfold resvFits
    rw [Bool.and_eq_true, decide_eq_true_eq]
    by_cases he : x.asn = y.asn ∧ x.iface = y.iface
    · refine ⟨?_, by rw [← he.1, ← he.2]; exact hle⟩
      rcases List.mem_append.1 hy with h | h
      · have := hf y (List.mem_filter.1 h).1
        unfold resvFits at this
        simp only [Bool.and_eq_true] at this
        exact this.1
      · rw [List.mem_singleton.1 h]; exact hx
    · have hyl : y ∈ l := by
        rcases List.mem_append.1 hy with h | h
        · exact (List.mem_filter.1 h).1
        · rw [List.mem_singleton.1 h] at he; exact absurd ⟨rfl, rfl⟩ he
      have := hf y hyl
      unfold resvFits at this
      simp only [Bool.and_eq_true, decide_eq_true_eq] at this
      rw [resvd_else he]
      exact this
  · rw [List.pairwise_append]
    refine ⟨hp.filter _, List.pairwise_singleton _ _, fun y hy z hz => ?_⟩
    rw [List.mem_singleton.1 hz]
    exact (List.mem_filter.1 hy).2
theorem admit_ok {l : List Resv} {x : Resv} {c now : Int} (h : (admit l x c now).2 = true) : refused l x c now = false ∧ (admit l x c now).1 = without x l ++ [x] ∧ now ≤ x.till := by
  cases hr : refused l x c now
  · have h2 := hr
    unfold refused at h2
    simp only [Bool.or_eq_false_iff, decide_eq_false_iff_not] at h2
    exact ⟨rfl, by rw [admit_yes hr], by omega⟩
  · unfold admit at h; rw [hr] at h; cases h
theorem admit_bad {l : List Resv} {x : Resv} {c now : Int} (h : (admit l x c now).2 = false) : (admit l x c now).1 = l := by
  cases hr : refused l x c now
  · rw [admit_yes hr] at h; cases h
  · unfold admit; rw [hr]; rfl
end
section
open Go.ChangeShapes Go.WideShapes Go.ChangeAt Go.RowKit Go.Deep
set_option maxRecDepth 100000 in
set_option maxHeartbeats 400000 in
theorem l_sameShares (a : List Resv) (va : Value) (b : List Resv) (vb : Value) (w : World) (ha : RdS Resv.rep w va a) (hb : RdS Resv.rep w vb b) :
  Calls Try.prog 56 #[va, vb] w fun e w' => e = .returned (.bool (decide (a = b))) ∧ Ext w w' := by
 obtain ⟨oa, ca, rfl, hsa⟩ := ha.shape
 obtain ⟨ob, cb, rfl, hsb⟩ := hb.shape
 by_cases hne : a.length = b.length
 ·
  have Hne := Lib.hid hne
  have t1 : ((a.length : Int) != (b.length : Int)) = false := by simp [hne]
  clear hne
  go_enter Try.func56, Try.ntmps56
  go_wp2
  go_loopw [5] (fun i wr => ∃ (k : Nat), k ≤ a.length ∧ i = .int .i64 k ∧ a.take k = b.take k ∧ Ext w wr) (fun i _ => a.length - (intOf i).toNat)
  case atStart => exact ⟨0, Nat.zero_le _, rfl, rfl, Ext.refl _⟩
  case round =>
   obtain ⟨k, hk, rfl, htk, hx⟩ := hrel
   have Htk := Lib.hid htk; clear htk
   by_cases hlt : k < a.length
   ·
    have hlb : k < b.length := by rw [← Hne.out]; exact hlt
    obtain ⟨b1, off1, rfl, hc1⟩ := Resv.at (ha.ext hx) k hlt
    obtain ⟨b2, off2, rfl, hc2⟩ := Resv.at (hb.ext hx) k hlb
    go_wp2
    go_still_tail 8, (by kernel_rfl)
    go_wp2_with fail
    all_goals first
     | (go_ret; exact ⟨ret_bool (Eq.symm (decide_eq_false (by rintro rfl; contradiction))), hx.drew⟩)
     | exact ⟨⟨k + 1, by omega, by go_num, take_snoc2 Htk.out hlt hlb (Resv.ext' (by assumption) (by assumption) (by assumption) (by assumption) (by assumption)), hx.drew⟩, by simp [intOf]; omega⟩
   ·
    have hab : decide (a = b) = true := by
     have := Htk.out
     rw [List.take_of_length_le (by omega), List.take_of_length_le (by rw [← Hne.out]; omega)] at this
     simp [this]
    have Hab := Lib.hid hab; clear hab
    go_wp2
    go_ret
    exact ⟨ret_bool Hab.out.symm, hx⟩
 ·
  have t1 : ((a.length : Int) != (b.length : Int)) = true := by simp [bne_iff_ne]; omega
  have hab : decide (a = b) = false := by
   rw [decide_eq_false_iff_not]; rintro rfl; exact hne rfl
  have Hab := Lib.hid hab; clear hab
  clear hne
  go_enter Try.func56, Try.ntmps56
  go_wp2
  go_ret
  exact ⟨ret_bool Hab.out.symm, Ext.refl _⟩
end
end Go.Proofs.Ytikbeiafobnblaa
