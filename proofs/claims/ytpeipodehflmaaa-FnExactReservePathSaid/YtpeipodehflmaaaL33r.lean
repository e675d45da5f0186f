/- The walk of the exact law over reserving along a path. No condition. -/
import Derived.Test.YtpeipodehflmaaaW33r
import Derived.Test.YtpeipodehflmaaaTyPartM
namespace Go.Proofs.Ytpeipodehflmaaa
open Go.ChangeShapes Go.WideShapes Go.ChangeAt Go.RowKit Go.Deep

theorem lmF_ReservationS (l : List Resv) (v : Value) (k : Int) (S : Nat → Prop) (w : World) (o : ((Own.flat Resv.f 5 Resv.flen 137)).own S w v l) (h0 : 0 ≤ k) (h1 : k + 5 * l.length ≤ 4611686018427387904) :
    Calls Try.prog 61 #[v, .int .i64 k] w fun e w' => e = .returned (.int .i64 (k + 5 * l.length)) ∧ ((Own.flat Resv.f 5 Resv.flen 137)).own S w' v (markL Resv.mk' 5 (k) (l).length) ∧ Chg S w w' :=
  (l_markReservationS l v k 0 w o.1 h0 h1).mono fun _ _ ⟨he, ho, hg⟩ => ⟨he, ⟨ho, o.2⟩, Chg.ofGrown hg o.2⟩

set_option maxRecDepth 100000 in
set_option maxHeartbeats 8000000 in
theorem l_FnExactReservePath (a0 : List Resv) (v0h0 : Value) (a1 : Int) (a2 : Pth) (v2h0 : Value) (a3 : Int) (a4 : Int) (a5 : Int) (a6 : Int) (w : World) (r0h0 : RdS Resv.rep w v0h0 a0) (_ : ∀ x ∈ a0, Resv.ok x) (_ : I64 a1) (r2h0 : RdS Part.rep w v2h0 a2.parts) (_ : a2.ok) (_ : I64 a3) (_ : I64 a4) (_ : I64 a5) (_ : I64 a6) :
    Calls Try.prog 12 #[v0h0, .int .i64 a1, .agg #[v2h0], .int .i64 a3, .int .i64 a4, .int .i64 a5, .int .i64 a6] w fun e w' => e = .returned (.bool true) ∧ Ext w w' := by
  go_enter Try.func12, Try.ntmps12
  have e0 : Ext w (w.alloc (.cells #[v2h0] 40)) := (Ext.refl _).alloc _
  have hB0 := blk_new w (.cells #[v2h0] 40)
  have HB0 := Lib.hid hB0; clear hB0
  go_wp2_with fail
  refine (l_szReservationS a0 _ (1048576) _ (r0h0.ext e0) (by omega) (by omega)).mono ?_
  rintro e w2 ⟨rfl, h2⟩
  rcases Int.lt_or_le (1048576 - (a0.length : Int)) 0 with z0 | z0
  · rw [show szL (1048576) a0.length = -1 from if_pos z0]
    go_wp2_with fail
    go_ret
    exact ⟨rfl, (e0.trans h2)⟩
  rw [show szL (1048576) a0.length = 1048576 - (a0.length : Int) from if_neg (by omega)]
  have hc2 := blk1 (Ext.block h2 HB0.out)
  go_wp2_with fail
  refine (l_szPath a2 v2h0 (1048576 - (a0.length : Int)) _ (r2h0.ext (e0.trans h2)) (by omega) (by omega)).mono ?_
  rintro e w3 ⟨rfl, h3⟩
  rcases Int.lt_or_le (1048576 - (a0.length : Int) - (a2.size : Int)) 0 with z2 | z2
  · rw [show szL (1048576 - (a0.length : Int)) a2.size = -1 from if_pos z2]
    go_wp2_with fail
    go_ret
    exact ⟨rfl, ((e0.trans h2).trans h3)⟩
  rw [show szL (1048576 - (a0.length : Int)) a2.size = 1048576 - (a0.length : Int) - (a2.size : Int) from if_neg (by omega)]
  have y0 : a0.length ≤ 1048576 := by omega
  have y2 : a2.size ≤ 1048576 := by omega
  have ym2 : 0 ≤ markN a2.parts ∧ markN a2.parts ≤ 5242880 := by have h := y2; unfold Pth.size at h; unfold markN; omega
  obtain ⟨ym2a, ym2b⟩ := ym2
  have yr0 : (reservePath a0 a1 a2 a3 a4 a5 a6).1.length ≤ 1048576 := by have h1 := reservePath_max a0 a1 a2 a3 a4 a5 a6; omega
  have hc3 := blk1 (Ext.block (h2.trans h3) HB0.out)
  go_wp2_with fail
  refine planStep (.blk [0, 2, 3, 5, 6, 7, 8] (.one 1 (.one 4 (.one 9 (.blk [10, 11, 12, 13, 14] .done))))) [] (by kernel_rfl) (by kernel_rfl) ?_
  refine blkStep (fun K HK => ?_)
  simp only [pick, List.filterMap_cons, List.filterMap_nil, List.getElem?_toArray, List.getElem?_cons_zero, List.getElem?_cons_succ]
  go_wp2_with fail
  refine HK.out _ _ ?_
  clear HK K
  refine oneStep (fun K HK => ?_)
  simp only [pick, List.filterMap_cons, List.filterMap_nil, List.getElem?_toArray, List.getElem?_cons_zero, List.getElem?_cons_succ]
  go_wp2_with fail
  refine (l_toReservationS a0 v0h0 _ (r0h0.ext ((e0.trans h2).trans h3).drew) y0).mono ?_
  rintro e w4 ⟨s0u0, rfl, s0o0, h4⟩
  go_wp2_with fail
  refine HK.out _ _ (h4) ?_
  clear HK K
  have s0o0q := Own.ofF (hf := Resv.flen) s0o0
  refine oneStep (fun K HK => ?_)
  simp only [pick, List.filterMap_cons, List.filterMap_nil, List.getElem?_toArray, List.getElem?_cons_zero, List.getElem?_cons_succ]
  go_wp2_with fail
  refine (l_toPath a2 v2h0 _ (r2h0.ext (((e0.trans h2).trans h3).trans ((Ext.refl _).drew.trans h4))) y2).mono ?_
  rintro e w5 ⟨s2u0, rfl, s2o0, h5⟩
  go_wp2_with fail
  refine HK.out _ _ (h5) ?_
  clear HK K
  refine oneStep (fun K HK => ?_)
  simp only [pick, List.filterMap_cons, List.filterMap_nil, List.getElem?_toArray, List.getElem?_cons_zero, List.getElem?_cons_succ]
  go_wp2_with fail
  refine (s_ReservePath a0 s0u0 a1 a2 s2u0 a3 a4 a5 a6 _ ((((Own.flat Resv.f 5 Resv.flen 137)).rd s0o0q).ext h5) ((Part.own).rd s2o0) y0 y2).mono ?_
  rintro e w6 ⟨spu0, rfl, spo0, h6⟩
  go_wp2_with fail
  refine HK.out _ _ (h6) ?_
  clear HK K
  refine blkStep (fun K HK => ?_)
  simp only [pick, List.filterMap_cons, List.filterMap_nil, List.getElem?_toArray, List.getElem?_cons_zero, List.getElem?_cons_succ]
  go_wp2_with fail
  refine HK.out _ _ ?_
  clear HK K
  refine doneStep (by kernel_rfl) ?_
  have spo0q := Own.ofF (hf := Resv.flen) spo0
  obtain ⟨spp0, spc0, rfl, spl0⟩ := (((Own.flat Resv.f 5 Resv.flen 137)).rd spo0q).shape; clear spl0
  have hc4 := blk1 (Ext.block ((((h2.trans h3).trans ((Ext.refl _).drew.trans h4)).trans h5).trans h6) HB0.out)
  go_wp2_with fail
  refine (l_toReservationS a0 v0h0 _ (r0h0.ext (((((e0.trans h2).trans h3).trans ((Ext.refl _).drew.trans h4)).trans h5).trans h6)) y0).mono ?_
  rintro e w7 ⟨x0u0, rfl, x0o0, h7⟩
  have x0o0q := Own.ofF (hf := Resv.flen) x0o0
  obtain ⟨x0sp0, x0sc0, rfl, x0sl0⟩ := (((Own.flat Resv.f 5 Resv.flen 137)).rd x0o0q).shape; clear x0sl0
  have hc5 := blk1 (Ext.block (((((h2.trans h3).trans ((Ext.refl _).drew.trans h4)).trans h5).trans h6).trans h7) HB0.out)
  go_wp2_with fail
  refine (l_toPath a2 v2h0 _ (r2h0.ext ((((((e0.trans h2).trans h3).trans ((Ext.refl _).drew.trans h4)).trans h5).trans h6).trans h7)) y2).mono ?_
  rintro e w8 ⟨x2u0, rfl, x2o0, h8⟩
  obtain ⟨x2sp0, x2sc0, rfl, x2sl0⟩ := ((Part.own).rd x2o0).shape; clear x2sl0
  have e8 : Ext w8 (w8.alloc (.cells #[(.slice x2sp0 (a2.parts).length x2sc0)] 47)) := (Ext.refl _).alloc _
  have hB8 := blk_new w8 (.cells #[(.slice x2sp0 (a2.parts).length x2sc0)] 47)
  have HB8 := Lib.hid hB8; clear hB8
  have hc6 := blk1 (Ext.block (((((((h2.trans h3).trans ((Ext.refl _).drew.trans h4)).trans h5).trans h6).trans h7).trans h8).trans e8) HB0.out)
  go_wp2_with fail
  refine (i_ReservePath a0 (.slice x0sp0 (a0).length x0sc0) a1 a2 (.slice x2sp0 (a2.parts).length x2sc0) a3 a4 a5 a6 _ ((((Own.flat Resv.f 5 Resv.flen 137)).rd x0o0q).ext (h8.trans e8)) (((Part.own).rd x2o0).ext e8) y0 y2).mono ?_
  rintro e w10 ⟨gpu0, rfl, gpo0, h10⟩
  have gpo0q := Own.ofF (hf := Resv.flen) gpo0
  obtain ⟨gpp0, gpc0, rfl, gpl0⟩ := (((Own.flat Resv.f 5 Resv.flen 137)).rd gpo0q).shape; clear gpl0
  have hc8 := blk1 (Ext.block ((((((((h2.trans h3).trans ((Ext.refl _).drew.trans h4)).trans h5).trans h6).trans h7).trans h8).trans e8).trans h10) HB0.out)
  have hc9 := blk1 (Ext.block h10 HB8.out)
  go_wp2_with fail
  refine (l_eqReservationS ((reservePath a0 a1 a2 a3 a4 a5 a6).1) ((reservePath a0 a1 a2 a3 a4 a5 a6).1) (.slice gpp0 (((reservePath a0 a1 a2 a3 a4 a5 a6).1)).length gpc0) (.slice spp0 (((reservePath a0 a1 a2 a3 a4 a5 a6).1)).length spc0) _ (((Own.flat Resv.f 5 Resv.flen 137)).rd gpo0q) ((((Own.flat Resv.f 5 Resv.flen 137)).rd spo0q).ext (((h7.trans h8).trans e8).trans h10))).mono ?_
  rintro e w11 ⟨rfl, h11⟩
  rw [show decide (((reservePath a0 a1 a2 a3 a4 a5 a6).1) = ((reservePath a0 a1 a2 a3 a4 a5 a6).1)) = true from decide_eq_true rfl]
  have hc10 := blk1 (Ext.block (((((((((h2.trans h3).trans ((Ext.refl _).drew.trans h4)).trans h5).trans h6).trans h7).trans h8).trans e8).trans h10).trans h11) HB0.out)
  have hc11 := blk1 (Ext.block (h10.trans h11) HB8.out)
  go_wp2_with fail
  refine (l_toReservationS a0 v0h0 _ (r0h0.ext ((((((((((e0.trans h2).trans h3).trans ((Ext.refl _).drew.trans h4)).trans h5).trans h6).trans h7).trans h8).trans e8).trans h10).trans h11)) y0).mono ?_
  rintro e w12 ⟨t0u0, rfl, t0o0, h12⟩
  have t0o0q := Own.ofF (hf := Resv.flen) t0o0
  have hc12 := blk1 (Ext.block ((((((((((h2.trans h3).trans ((Ext.refl _).drew.trans h4)).trans h5).trans h6).trans h7).trans h8).trans e8).trans h10).trans h11).trans h12) HB0.out)
  have hc13 := blk1 (Ext.block ((h10.trans h11).trans h12) HB8.out)
  go_wp2_with fail
  refine (l_eqReservationS a0 a0 (.slice x0sp0 (a0).length x0sc0) t0u0 _ ((((Own.flat Resv.f 5 Resv.flen 137)).rd x0o0q).ext ((((h8.trans e8).trans h10).trans h11).trans h12)) (((Own.flat Resv.f 5 Resv.flen 137)).rd t0o0q)).mono ?_
  rintro e w13 ⟨rfl, h13⟩
  rw [show decide (a0 = a0) = true from decide_eq_true rfl]
  have hc14 := blk1 (Ext.block (((((((((((h2.trans h3).trans ((Ext.refl _).drew.trans h4)).trans h5).trans h6).trans h7).trans h8).trans e8).trans h10).trans h11).trans h12).trans h13) HB0.out)
  have hc15 := blk1 (Ext.block (((h10.trans h11).trans h12).trans h13) HB8.out)
  go_wp2_with fail
  refine planStep (.blk [0, 1] (.one 2 (.one 3 (.blk [4] .done)))) [] (by kernel_rfl) (by kernel_rfl) ?_
  refine blkStep (fun K HK => ?_)
  simp only [pick, List.filterMap_cons, List.filterMap_nil, List.getElem?_toArray, List.getElem?_cons_zero, List.getElem?_cons_succ]
  go_wp2_with fail
  refine HK.out _ _ ?_
  clear HK K
  refine oneStep (fun K HK => ?_)
  simp only [pick, List.filterMap_cons, List.filterMap_nil, List.getElem?_toArray, List.getElem?_cons_zero, List.getElem?_cons_succ]
  go_wp2_with fail
  refine (l_toPath a2 v2h0 _ (r2h0.ext ((((((((((((e0.trans h2).trans h3).trans ((Ext.refl _).drew.trans h4)).trans h5).trans h6).trans h7).trans h8).trans e8).trans h10).trans h11).trans h12).trans h13).drew) y2).mono ?_
  rintro e w14 ⟨t2u0, rfl, t2o0, h14⟩
  go_wp2_with fail
  refine HK.out _ _ (h14) ?_
  clear HK K
  refine oneStep (fun K HK => ?_)
  simp only [pick, List.filterMap_cons, List.filterMap_nil, List.getElem?_toArray, List.getElem?_cons_zero, List.getElem?_cons_succ]
  go_wp2_with fail
  refine (l_eqPath a2 a2 (.slice x2sp0 (a2.parts).length x2sc0) t2u0 _ (((Part.own).rd x2o0).ext (((((e8.trans h10).trans h11).trans h12).trans h13).trans ((Ext.refl _).drew.trans h14))) ((Part.own).rd t2o0)).mono ?_
  rintro e w15 ⟨rfl, h15⟩
  rw [show decide (a2 = a2) = true from decide_eq_true rfl]
  go_wp2_with fail
  refine HK.out _ _ (h15) ?_
  clear HK K
  refine blkStep (fun K HK => ?_)
  simp only [pick, List.filterMap_cons, List.filterMap_nil, List.getElem?_toArray, List.getElem?_cons_zero, List.getElem?_cons_succ]
  go_wp2_with fail
  refine HK.out _ _ ?_
  clear HK K
  refine doneStep (by kernel_rfl) ?_
  have hc16 := blk1 (Ext.block (((((((((((((h2.trans h3).trans ((Ext.refl _).drew.trans h4)).trans h5).trans h6).trans h7).trans h8).trans e8).trans h10).trans h11).trans h12).trans h13).trans ((Ext.refl _).drew.trans h14)).trans h15) HB0.out)
  have hc17 := blk1 (Ext.block (((((h10.trans h11).trans h12).trans h13).trans ((Ext.refl _).drew.trans h14)).trans h15) HB8.out)
  go_wp2_with fail
  refine (lmF_ReservationS (a0) (.slice x0sp0 (a0).length x0sc0) (1) _ _ (Own.ext x0o0q (((((((h8.trans e8).trans h10).trans h11).trans h12).trans h13).trans ((Ext.refl _).drew.trans h14)).trans h15)) (by omega) (by omega)).mono ?_
  rintro e w16 ⟨rfl, mx0o, mx0c⟩
  have HB0m1 := Lib.hid (Chg.blk mx0c (Ext.block (((((((((((((h2.trans h3).trans ((Ext.refl _).drew.trans h4)).trans h5).trans h6).trans h7).trans h8).trans e8).trans h10).trans h11).trans h12).trans h13).trans ((Ext.refl _).drew.trans h14)).trans h15) HB0.out) (.inl (Nat.lt_of_lt_of_le (blk_lt HB0.out) ((((h2.trans h3).trans ((Ext.refl _).drew.trans h4)).trans h5).trans h6).size)))
  have HB8m1 := Lib.hid (Chg.blk mx0c (Ext.block (((((h10.trans h11).trans h12).trans h13).trans ((Ext.refl _).drew.trans h14)).trans h15) HB8.out) (.inr h8.size))
  have s0o0q_m1 := Own.kept _ (Own.ext s0o0q ((((((((((h5.trans h6).trans h7).trans h8).trans e8).trans h10).trans h11).trans h12).trans h13).trans ((Ext.refl _).drew.trans h14)).trans h15)) mx0c (rng_apart (.inl (h5.trans h6).size))
  have s2o0_m1 := Own.kept _ (Own.ext s2o0 (((((((((h6.trans h7).trans h8).trans e8).trans h10).trans h11).trans h12).trans h13).trans ((Ext.refl _).drew.trans h14)).trans h15)) mx0c (rng_apart (.inl h6.size))
  have spo0q_m1 := Own.kept _ (Own.ext spo0q ((((((((h7.trans h8).trans e8).trans h10).trans h11).trans h12).trans h13).trans ((Ext.refl _).drew.trans h14)).trans h15)) mx0c (rng_apart (.inl (Ext.refl _).size))
  have x2o0_m1 := Own.kept _ (Own.ext x2o0 ((((((e8.trans h10).trans h11).trans h12).trans h13).trans ((Ext.refl _).drew.trans h14)).trans h15)) mx0c (rng_apart (.inr (Ext.refl _).size))
  have gpo0q_m1 := Own.kept _ (Own.ext gpo0q ((((h11.trans h12).trans h13).trans ((Ext.refl _).drew.trans h14)).trans h15)) mx0c (rng_apart (.inr (h8.trans e8).size))
  have t0o0q_m1 := Own.kept _ (Own.ext t0o0q ((h13.trans ((Ext.refl _).drew.trans h14)).trans h15)) mx0c (rng_apart (.inr (((h8.trans e8).trans h10).trans h11).size))
  have t2o0_m1 := Own.kept _ (Own.ext t2o0 h15) mx0c (rng_apart (.inr (((((h8.trans e8).trans h10).trans h11).trans h12).trans h13).size))
  have X1 := Ext.chg ((((((((((((((e0.trans h2).trans h3).trans ((Ext.refl _).drew.trans h4)).trans h5).trans h6).trans h7).trans h8).trans e8).trans h10).trans h11).trans h12).trans h13).trans ((Ext.refl _).drew.trans h14)).trans h15) mx0c (fun i hi => Nat.le_trans (((((e0.trans h2).trans h3).trans ((Ext.refl _).drew.trans h4)).trans h5).trans h6).size hi.1)
  have hc18 := blk1 HB0m1.out
  have hc19 := blk1 HB8m1.out
  go_wp2_with fail
  refine (l_markPath (a2.parts) (.slice x2sp0 (a2.parts).length x2sc0) (1 + 5 * ((a0).length : Int)) _ _ x2o0_m1 (by omega) (by omega)).mono ?_
  rintro e w17 ⟨rfl, mx2o, mx2c⟩
  have HB0m2 := Lib.hid (Chg.blk mx2c HB0m1.out (.inl (Nat.lt_of_lt_of_le (blk_lt HB0.out) (((((h2.trans h3).trans ((Ext.refl _).drew.trans h4)).trans h5).trans h6).trans h7).size)))
  have HB8m2 := Lib.hid (Chg.blk mx2c HB8m1.out (.inr (Ext.refl _).size))
  have s0o0q_m2 := Own.kept _ s0o0q_m1 mx2c (rng_apart (.inl ((h5.trans h6).trans h7).size))
  have s2o0_m2 := Own.kept _ s2o0_m1 mx2c (rng_apart (.inl (h6.trans h7).size))
  have spo0q_m2 := Own.kept _ spo0q_m1 mx2c (rng_apart (.inl h7.size))
  have mx0o_m2 := Own.kept _ mx0o mx2c (rng_apart (.inl (Ext.refl _).size))
  have gpo0q_m2 := Own.kept _ gpo0q_m1 mx2c (rng_apart (.inr e8.size))
  have t0o0q_m2 := Own.kept _ t0o0q_m1 mx2c (rng_apart (.inr ((e8.trans h10).trans h11).size))
  have t2o0_m2 := Own.kept _ t2o0_m1 mx2c (rng_apart (.inr ((((e8.trans h10).trans h11).trans h12).trans h13).size))
  have X2 := Ext.chg (X1.trans (Ext.refl _)) mx2c (fun i hi => Nat.le_trans ((((((e0.trans h2).trans h3).trans ((Ext.refl _).drew.trans h4)).trans h5).trans h6).trans h7).size hi.1)
  have hqp : ¬ (1 + 5 * ((a0).length : Int) + markN a2.parts) < 0 := by omega
  have hc20 := blk1 HB0m2.out
  have hc21 := blk1 HB8m2.out
  go_wp2_with fail
  refine (l_eqReservationS ((reservePath a0 a1 a2 a3 a4 a5 a6).1) ((reservePath a0 a1 a2 a3 a4 a5 a6).1) (.slice gpp0 (((reservePath a0 a1 a2 a3 a4 a5 a6).1)).length gpc0) (.slice spp0 (((reservePath a0 a1 a2 a3 a4 a5 a6).1)).length spc0) _ (((Own.flat Resv.f 5 Resv.flen 137)).rd gpo0q_m2) (((Own.flat Resv.f 5 Resv.flen 137)).rd spo0q_m2)).mono ?_
  rintro e w18 ⟨rfl, h18⟩
  rw [show decide (((reservePath a0 a1 a2 a3 a4 a5 a6).1) = ((reservePath a0 a1 a2 a3 a4 a5 a6).1)) = true from decide_eq_true rfl]
  have hc22 := blk1 (Ext.block h18 HB0m2.out)
  have hc23 := blk1 (Ext.block h18 HB8m2.out)
  go_wp2_with fail
  refine (lmF_ReservationS (((reservePath a0 a1 a2 a3 a4 a5 a6).1)) (.slice gpp0 (((reservePath a0 a1 a2 a3 a4 a5 a6).1)).length gpc0) (1) _ _ (Own.ext gpo0q_m2 h18) (by omega) (by omega)).mono ?_
  rintro e w19 ⟨rfl, mgo, mgc⟩
  have HB0m3 := Lib.hid (Chg.blk mgc (Ext.block h18 HB0m2.out) (.inl (Nat.lt_of_lt_of_le (blk_lt HB0.out) (((((((h2.trans h3).trans ((Ext.refl _).drew.trans h4)).trans h5).trans h6).trans h7).trans h8).trans e8).size)))
  have HB8m3 := Lib.hid (Chg.blk mgc (Ext.block h18 HB8m2.out) (.inl (Nat.lt_of_lt_of_le (blk_lt HB8.out) (Ext.refl _).size)))
  have s0o0q_m3 := Own.kept _ (Own.ext s0o0q_m2 h18) mgc (rng_apart (.inl ((((h5.trans h6).trans h7).trans h8).trans e8).size))
  have s2o0_m3 := Own.kept _ (Own.ext s2o0_m2 h18) mgc (rng_apart (.inl (((h6.trans h7).trans h8).trans e8).size))
  have spo0q_m3 := Own.kept _ (Own.ext spo0q_m2 h18) mgc (rng_apart (.inl ((h7.trans h8).trans e8).size))
  have mx0o_m3 := Own.kept _ (Own.ext mx0o_m2 h18) mgc (rng_apart (.inl (h8.trans e8).size))
  have mx2o_m3 := Own.kept _ (Own.ext mx2o h18) mgc (rng_apart (.inl e8.size))
  have t0o0q_m3 := Own.kept _ (Own.ext t0o0q_m2 h18) mgc (rng_apart (.inr h11.size))
  have t2o0_m3 := Own.kept _ (Own.ext t2o0_m2 h18) mgc (rng_apart (.inr ((h11.trans h12).trans h13).size))
  have X3 := Ext.chg (X2.trans h18) mgc (fun i hi => Nat.le_trans ((((((((e0.trans h2).trans h3).trans ((Ext.refl _).drew.trans h4)).trans h5).trans h6).trans h7).trans h8).trans e8).size hi.1)
  have hc24 := blk1 HB0m3.out
  have hc25 := blk1 HB8m3.out
  go_wp2_with fail
  refine (l_heldReservationS _ (.slice gpp0 (((reservePath a0 a1 a2 a3 a4 a5 a6).1)).length gpc0) (1) _ (((Own.flat Resv.f 5 Resv.flen 137)).rd mgo) (by omega) (by omega)).mono ?_
  rintro e w20 ⟨rfl, h20⟩
  have hmp : ¬ (1 + 5 * ((((reservePath a0 a1 a2 a3 a4 a5 a6).1)).length : Int)) < 0 := by omega
  have hc26 := blk1 (Ext.block h20 HB0m3.out)
  have hc27 := blk1 (Ext.block h20 HB8m3.out)
  go_wp2_with fail
  refine planStep (.blk [0, 2, 3, 5, 6, 7, 8] (.one 1 (.one 4 (.one 9 (.blk [10, 11, 12, 13, 14] .done))))) [] (by kernel_rfl) (by kernel_rfl) ?_
  refine blkStep (fun K HK => ?_)
  simp only [pick, List.filterMap_cons, List.filterMap_nil, List.getElem?_toArray, List.getElem?_cons_zero, List.getElem?_cons_succ]
  go_wp2_with fail
  refine HK.out _ _ ?_
  clear HK K
  refine oneStep (fun K HK => ?_)
  simp only [pick, List.filterMap_cons, List.filterMap_nil, List.getElem?_toArray, List.getElem?_cons_zero, List.getElem?_cons_succ]
  go_wp2_with fail
  refine (l_toReservationS a0 v0h0 _ (r0h0.ext (X3.trans h20).drew) y0).mono ?_
  rintro e w21 ⟨k0u0, rfl, k0o0, h21⟩
  go_wp2_with fail
  refine HK.out _ _ (h21) ?_
  clear HK K
  have k0o0q := Own.ofF (hf := Resv.flen) k0o0
  refine oneStep (fun K HK => ?_)
  simp only [pick, List.filterMap_cons, List.filterMap_nil, List.getElem?_toArray, List.getElem?_cons_zero, List.getElem?_cons_succ]
  go_wp2_with fail
  refine (l_toPath a2 v2h0 _ (r2h0.ext (X3.trans (h20.trans ((Ext.refl _).drew.trans h21)))) y2).mono ?_
  rintro e w22 ⟨k2u0, rfl, k2o0, h22⟩
  go_wp2_with fail
  refine HK.out _ _ (h22) ?_
  clear HK K
  refine oneStep (fun K HK => ?_)
  simp only [pick, List.filterMap_cons, List.filterMap_nil, List.getElem?_toArray, List.getElem?_cons_zero, List.getElem?_cons_succ]
  go_wp2_with fail
  refine (i_ReservePath a0 k0u0 a1 a2 k2u0 a3 a4 a5 a6 _ ((((Own.flat Resv.f 5 Resv.flen 137)).rd k0o0q).ext h22) ((Part.own).rd k2o0) y0 y2).mono ?_
  rintro e w23 ⟨hpu0, rfl, hpo0, h23⟩
  go_wp2_with fail
  refine HK.out _ _ (h23) ?_
  clear HK K
  refine blkStep (fun K HK => ?_)
  simp only [pick, List.filterMap_cons, List.filterMap_nil, List.getElem?_toArray, List.getElem?_cons_zero, List.getElem?_cons_succ]
  go_wp2_with fail
  refine HK.out _ _ ?_
  clear HK K
  refine doneStep (by kernel_rfl) ?_
  have hpo0q := Own.ofF (hf := Resv.flen) hpo0
  obtain ⟨hpp0, hpc0, rfl, hpl0⟩ := (((Own.flat Resv.f 5 Resv.flen 137)).rd hpo0q).shape; clear hpl0
  have hc28 := blk1 (Ext.block (((h20.trans ((Ext.refl _).drew.trans h21)).trans h22).trans h23) HB0m3.out)
  have hc29 := blk1 (Ext.block (((h20.trans ((Ext.refl _).drew.trans h21)).trans h22).trans h23) HB8m3.out)
  go_wp2_with fail
  refine (l_eqReservationS ((reservePath a0 a1 a2 a3 a4 a5 a6).1) ((reservePath a0 a1 a2 a3 a4 a5 a6).1) (.slice hpp0 (((reservePath a0 a1 a2 a3 a4 a5 a6).1)).length hpc0) (.slice spp0 (((reservePath a0 a1 a2 a3 a4 a5 a6).1)).length spc0) _ (((Own.flat Resv.f 5 Resv.flen 137)).rd hpo0q) ((((Own.flat Resv.f 5 Resv.flen 137)).rd spo0q_m3).ext (((h20.trans ((Ext.refl _).drew.trans h21)).trans h22).trans h23))).mono ?_
  rintro e w24 ⟨rfl, h24⟩
  rw [show decide (((reservePath a0 a1 a2 a3 a4 a5 a6).1) = ((reservePath a0 a1 a2 a3 a4 a5 a6).1)) = true from decide_eq_true rfl]
  have hc30 := blk1 (Ext.block ((((h20.trans ((Ext.refl _).drew.trans h21)).trans h22).trans h23).trans h24) HB0m3.out)
  have hc31 := blk1 (Ext.block ((((h20.trans ((Ext.refl _).drew.trans h21)).trans h22).trans h23).trans h24) HB8m3.out)
  go_wp2_with fail
  refine (l_heldReservationS _ (.slice gpp0 (((reservePath a0 a1 a2 a3 a4 a5 a6).1)).length gpc0) (1) _ ((((Own.flat Resv.f 5 Resv.flen 137)).rd mgo).ext ((((h20.trans ((Ext.refl _).drew.trans h21)).trans h22).trans h23).trans h24)) (by omega) (by omega)).mono ?_
  rintro e w25 ⟨rfl, h25⟩
  go_wp2_with fail
  go_ret
  exact ⟨rfl, (X3.trans (((((h20.trans ((Ext.refl _).drew.trans h21)).trans h22).trans h23).trans h24).trans h25))⟩

end Go.Proofs.Ytpeipodehflmaaa
