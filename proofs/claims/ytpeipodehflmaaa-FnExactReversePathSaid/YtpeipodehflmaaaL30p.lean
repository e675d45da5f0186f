/- The walk of the exact law over turning a path around. No condition. -/
import Derived.Test.YtpeipodehflmaaaW30p
namespace Go.Proofs.Ytpeipodehflmaaa
open Go.ChangeShapes Go.WideShapes Go.ChangeAt Go.RowKit Go.Deep

set_option maxRecDepth 100000 in
set_option maxHeartbeats 8000000 in
theorem l_FnExactReversePath (a0 : Pth) (v0h0 : Value) (w : World) (r0h0 : RdS Part.rep w v0h0 a0.parts) (_ : a0.ok) :
    Calls Try.prog 8 #[.agg #[v0h0]] w fun e w' => e = .returned (.bool true) ∧ Ext w w' := by
  go_enter Try.func8, Try.ntmps8
  have e0 : Ext w (w.alloc (.cells #[v0h0] 40)) := (Ext.refl _).alloc _
  have hB0 := blk_new w (.cells #[v0h0] 40)
  have HB0 := Lib.hid hB0; clear hB0
  go_wp2_with fail
  refine (l_szPath a0 v0h0 (1048576) _ (r0h0.ext e0) (by omega) (by omega)).mono ?_
  rintro e w2 ⟨rfl, h2⟩
  rcases Int.lt_or_le (1048576 - (a0.size : Int)) 0 with z0 | z0
  · rw [show szL (1048576) a0.size = -1 from if_pos z0]
    go_wp2_with fail
    go_ret
    exact ⟨rfl, (e0.trans h2)⟩
  rw [show szL (1048576) a0.size = 1048576 - (a0.size : Int) from if_neg (by omega)]
  have y0 : a0.size ≤ 1048576 := by omega
  have ym0 : 0 ≤ markN a0.parts ∧ markN a0.parts ≤ 5242880 := by have h := y0; unfold Pth.size at h; unfold markN; omega
  obtain ⟨ym0a, ym0b⟩ := ym0
  have yr0 : 0 ≤ markN (revPath a0).parts ∧ markN (revPath a0).parts ≤ 5242880 := by have h := y0; unfold Pth.size at h; unfold markN revPath; dsimp only; rw [revParts_len, revParts_hops]; omega
  obtain ⟨yr0a, yr0b⟩ := yr0
  have hc2 := blk1 (Ext.block h2 HB0.out)
  go_wp2_with fail
  refine (l_toPath a0 v0h0 _ (r0h0.ext (e0.trans h2)) y0).mono ?_
  rintro e w3 ⟨s0u0, rfl, s0o0, h3⟩
  have hc3 := blk1 (Ext.block (h2.trans h3) HB0.out)
  go_wp2_with fail
  refine (s_ReversePath a0 s0u0 _ ((Part.own).rd s0o0) y0).mono ?_
  rintro e w4 ⟨spu0, rfl, spo0, h4⟩
  obtain ⟨spp0, spc0, rfl, spl0⟩ := ((Part.own).rd spo0).shape; clear spl0
  have e4 : Ext w4 (w4.alloc (.cells #[(.slice spp0 ((revPath a0).parts).length spc0)] 47)) := (Ext.refl _).alloc _
  have hB4 := blk_new w4 (.cells #[(.slice spp0 ((revPath a0).parts).length spc0)] 47)
  have HB4 := Lib.hid hB4; clear hB4
  have hc4 := blk1 (Ext.block (((h2.trans h3).trans h4).trans e4) HB0.out)
  go_wp2_with fail
  refine (l_toPath a0 v0h0 _ (r0h0.ext ((((e0.trans h2).trans h3).trans h4).trans e4)) y0).mono ?_
  rintro e w6 ⟨x0u0, rfl, x0o0, h6⟩
  obtain ⟨x0sp0, x0sc0, rfl, x0sl0⟩ := ((Part.own).rd x0o0).shape; clear x0sl0
  have e6 : Ext w6 (w6.alloc (.cells #[(.slice x0sp0 (a0.parts).length x0sc0)] 47)) := (Ext.refl _).alloc _
  have hB6 := blk_new w6 (.cells #[(.slice x0sp0 (a0.parts).length x0sc0)] 47)
  have HB6 := Lib.hid hB6; clear hB6
  have hc6 := blk1 (Ext.block (((((h2.trans h3).trans h4).trans e4).trans h6).trans e6) HB0.out)
  have hc7 := blk1 (Ext.block (h6.trans e6) HB4.out)
  go_wp2_with fail
  refine (i_ReversePath a0 (.slice x0sp0 (a0.parts).length x0sc0) _ ((Part.own).rd x0o0 |>.ext e6) y0).mono ?_
  rintro e w8 ⟨gpu0, rfl, gpo0, h8⟩
  obtain ⟨gpp0, gpc0, rfl, gpl0⟩ := ((Part.own).rd gpo0).shape; clear gpl0
  have e8 : Ext w8 (w8.alloc (.cells #[(.slice gpp0 ((revPath a0).parts).length gpc0)] 47)) := (Ext.refl _).alloc _
  have hB8 := blk_new w8 (.cells #[(.slice gpp0 ((revPath a0).parts).length gpc0)] 47)
  have HB8 := Lib.hid hB8; clear hB8
  have hc9 := blk1 (Ext.block (((((((h2.trans h3).trans h4).trans e4).trans h6).trans e6).trans h8).trans e8) HB0.out)
  have hc10 := blk1 (Ext.block (((h6.trans e6).trans h8).trans e8) HB4.out)
  have hc11 := blk1 (Ext.block (h8.trans e8) HB6.out)
  go_wp2_with fail
  refine (l_eqPath (revPath a0) (revPath a0) (.slice gpp0 ((revPath a0).parts).length gpc0) (.slice spp0 ((revPath a0).parts).length spc0) _ ((Part.own).rd gpo0 |>.ext e8) ((Part.own).rd spo0 |>.ext ((((e4.trans h6).trans e6).trans h8).trans e8))).mono ?_
  rintro e w10 ⟨rfl, h10⟩
  rw [show decide ((revPath a0) = (revPath a0)) = true from decide_eq_true rfl]
  have hc13 := blk1 (Ext.block ((((((((h2.trans h3).trans h4).trans e4).trans h6).trans e6).trans h8).trans e8).trans h10) HB0.out)
  have hc14 := blk1 (Ext.block ((((h6.trans e6).trans h8).trans e8).trans h10) HB4.out)
  have hc15 := blk1 (Ext.block ((h8.trans e8).trans h10) HB6.out)
  have hc16 := blk1 (Ext.block h10 HB8.out)
  go_wp2_with fail
  refine planStep (.blk [0, 1] (.one 2 (.one 3 (.blk [4] .done)))) [] (by kernel_rfl) (by kernel_rfl) ?_
  refine blkStep (fun K HK => ?_)
  simp only [pick, List.filterMap_cons, List.filterMap_nil, List.getElem?_toArray, List.getElem?_cons_zero, List.getElem?_cons_succ]
  go_wp2_with fail
  refine HK.out _ _ ?_
  clear HK K
  refine oneStep (fun K HK => ?_)
  simp only [pick, List.filterMap_cons, List.filterMap_nil, List.getElem?_toArray, List.getElem?_cons_zero, List.getElem?_cons_succ]
  go_wp2_with fail
  refine (l_toPath a0 v0h0 _ (r0h0.ext (((((((((e0.trans h2).trans h3).trans h4).trans e4).trans h6).trans e6).trans h8).trans e8).trans h10).drew) y0).mono ?_
  rintro e w11 ⟨t0u0, rfl, t0o0, h11⟩
  go_wp2_with fail
  refine HK.out _ _ (h11) ?_
  clear HK K
  refine oneStep (fun K HK => ?_)
  simp only [pick, List.filterMap_cons, List.filterMap_nil, List.getElem?_toArray, List.getElem?_cons_zero, List.getElem?_cons_succ]
  go_wp2_with fail
  refine (l_eqPath a0 a0 (.slice x0sp0 (a0.parts).length x0sc0) t0u0 _ ((Part.own).rd x0o0 |>.ext ((((e6.trans h8).trans e8).trans h10).trans ((Ext.refl _).drew.trans h11))) ((Part.own).rd t0o0)).mono ?_
  rintro e w12 ⟨rfl, h12⟩
  rw [show decide (a0 = a0) = true from decide_eq_true rfl]
  go_wp2_with fail
  refine HK.out _ _ (h12) ?_
  clear HK K
  refine blkStep (fun K HK => ?_)
  simp only [pick, List.filterMap_cons, List.filterMap_nil, List.getElem?_toArray, List.getElem?_cons_zero, List.getElem?_cons_succ]
  go_wp2_with fail
  refine HK.out _ _ ?_
  clear HK K
  refine doneStep (by kernel_rfl) ?_
  have hc17 := blk1 (Ext.block ((((((((((h2.trans h3).trans h4).trans e4).trans h6).trans e6).trans h8).trans e8).trans h10).trans ((Ext.refl _).drew.trans h11)).trans h12) HB0.out)
  have hc18 := blk1 (Ext.block ((((((h6.trans e6).trans h8).trans e8).trans h10).trans ((Ext.refl _).drew.trans h11)).trans h12) HB4.out)
  have hc19 := blk1 (Ext.block ((((h8.trans e8).trans h10).trans ((Ext.refl _).drew.trans h11)).trans h12) HB6.out)
  have hc20 := blk1 (Ext.block ((h10.trans ((Ext.refl _).drew.trans h11)).trans h12) HB8.out)
  go_wp2_with fail
  refine (l_markPath (a0.parts) (.slice x0sp0 (a0.parts).length x0sc0) (1) _ _ (Own.ext x0o0 (((((e6.trans h8).trans e8).trans h10).trans ((Ext.refl _).drew.trans h11)).trans h12)) (by omega) (by omega)).mono ?_
  rintro e w13 ⟨rfl, mx0o, mx0c⟩
  have HB0m1 := Lib.hid (Chg.blk mx0c (Ext.block ((((((((((h2.trans h3).trans h4).trans e4).trans h6).trans e6).trans h8).trans e8).trans h10).trans ((Ext.refl _).drew.trans h11)).trans h12) HB0.out) (.inl (Nat.lt_of_lt_of_le (blk_lt HB0.out) (((h2.trans h3).trans h4).trans e4).size)))
  have HB4m1 := Lib.hid (Chg.blk mx0c (Ext.block ((((((h6.trans e6).trans h8).trans e8).trans h10).trans ((Ext.refl _).drew.trans h11)).trans h12) HB4.out) (.inl (Nat.lt_of_lt_of_le (blk_lt HB4.out) (Ext.refl _).size)))
  have HB6m1 := Lib.hid (Chg.blk mx0c (Ext.block ((((h8.trans e8).trans h10).trans ((Ext.refl _).drew.trans h11)).trans h12) HB6.out) (.inr (Ext.refl _).size))
  have HB8m1 := Lib.hid (Chg.blk mx0c (Ext.block ((h10.trans ((Ext.refl _).drew.trans h11)).trans h12) HB8.out) (.inr (e6.trans h8).size))
  have s0o0_m1 := Own.kept _ (Own.ext s0o0 ((((((((h4.trans e4).trans h6).trans e6).trans h8).trans e8).trans h10).trans ((Ext.refl _).drew.trans h11)).trans h12)) mx0c (rng_apart (.inl (h4.trans e4).size))
  have spo0_m1 := Own.kept _ (Own.ext spo0 (((((((e4.trans h6).trans e6).trans h8).trans e8).trans h10).trans ((Ext.refl _).drew.trans h11)).trans h12)) mx0c (rng_apart (.inl e4.size))
  have gpo0_m1 := Own.kept _ (Own.ext gpo0 (((e8.trans h10).trans ((Ext.refl _).drew.trans h11)).trans h12)) mx0c (rng_apart (.inr e6.size))
  have t0o0_m1 := Own.kept _ (Own.ext t0o0 h12) mx0c (rng_apart (.inr (((e6.trans h8).trans e8).trans h10).size))
  have X1 := Ext.chg (((((((((((e0.trans h2).trans h3).trans h4).trans e4).trans h6).trans e6).trans h8).trans e8).trans h10).trans ((Ext.refl _).drew.trans h11)).trans h12) mx0c (fun i hi => Nat.le_trans ((((e0.trans h2).trans h3).trans h4).trans e4).size hi.1)
  have hqp : ¬ (1 + markN a0.parts) < 0 := by omega
  have hc21 := blk1 HB0m1.out
  have hc22 := blk1 HB4m1.out
  have hc23 := blk1 HB6m1.out
  have hc24 := blk1 HB8m1.out
  go_wp2_with fail
  refine (l_eqPath (revPath a0) (revPath a0) (.slice gpp0 ((revPath a0).parts).length gpc0) (.slice spp0 ((revPath a0).parts).length spc0) _ ((Part.own).rd gpo0_m1) ((Part.own).rd spo0_m1)).mono ?_
  rintro e w14 ⟨rfl, h14⟩
  rw [show decide ((revPath a0) = (revPath a0)) = true from decide_eq_true rfl]
  have hc25 := blk1 (Ext.block h14 HB0m1.out)
  have hc26 := blk1 (Ext.block h14 HB4m1.out)
  have hc27 := blk1 (Ext.block h14 HB6m1.out)
  have hc28 := blk1 (Ext.block h14 HB8m1.out)
  go_wp2_with fail
  refine (l_markPath ((revPath a0).parts) (.slice gpp0 ((revPath a0).parts).length gpc0) (1) _ _ (Own.ext gpo0_m1 h14) (by omega) (by omega)).mono ?_
  rintro e w15 ⟨rfl, mgo, mgc⟩
  have HB0m2 := Lib.hid (Chg.blk mgc (Ext.block h14 HB0m1.out) (.inl (Nat.lt_of_lt_of_le (blk_lt HB0.out) (((((h2.trans h3).trans h4).trans e4).trans h6).trans e6).size)))
  have HB4m2 := Lib.hid (Chg.blk mgc (Ext.block h14 HB4m1.out) (.inl (Nat.lt_of_lt_of_le (blk_lt HB4.out) (h6.trans e6).size)))
  have HB6m2 := Lib.hid (Chg.blk mgc (Ext.block h14 HB6m1.out) (.inl (Nat.lt_of_lt_of_le (blk_lt HB6.out) (Ext.refl _).size)))
  have HB8m2 := Lib.hid (Chg.blk mgc (Ext.block h14 HB8m1.out) (.inr (Ext.refl _).size))
  have s0o0_m2 := Own.kept _ (Own.ext s0o0_m1 h14) mgc (rng_apart (.inl (((h4.trans e4).trans h6).trans e6).size))
  have spo0_m2 := Own.kept _ (Own.ext spo0_m1 h14) mgc (rng_apart (.inl ((e4.trans h6).trans e6).size))
  have mx0o_m2 := Own.kept _ (Own.ext mx0o h14) mgc (rng_apart (.inl e6.size))
  have t0o0_m2 := Own.kept _ (Own.ext t0o0_m1 h14) mgc (rng_apart (.inr (e8.trans h10).size))
  have X2 := Ext.chg (X1.trans h14) mgc (fun i hi => Nat.le_trans ((((((e0.trans h2).trans h3).trans h4).trans e4).trans h6).trans e6).size hi.1)
  have hc29 := blk1 HB0m2.out
  have hc30 := blk1 HB4m2.out
  have hc31 := blk1 HB6m2.out
  have hc32 := blk1 HB8m2.out
  go_wp2_with fail
  refine (l_heldPath ((revPath a0).parts) (.slice gpp0 ((revPath a0).parts).length gpc0) (1) _ ((Part.own).rd mgo) (by omega) (by omega)).mono ?_
  rintro e w16 ⟨rfl, h16⟩
  have hmp : ¬ (1 + markN (revPath a0).parts) < 0 := by omega
  have hc33 := blk1 (Ext.block h16 HB0m2.out)
  have hc34 := blk1 (Ext.block h16 HB4m2.out)
  have hc35 := blk1 (Ext.block h16 HB6m2.out)
  have hc36 := blk1 (Ext.block h16 HB8m2.out)
  go_wp2_with fail
  refine (l_toPath a0 v0h0 _ (r0h0.ext (X2.trans h16)) y0).mono ?_
  rintro e w17 ⟨k0u0, rfl, k0o0, h17⟩
  have hc37 := blk1 (Ext.block (h16.trans h17) HB0m2.out)
  have hc38 := blk1 (Ext.block (h16.trans h17) HB4m2.out)
  have hc39 := blk1 (Ext.block (h16.trans h17) HB6m2.out)
  have hc40 := blk1 (Ext.block (h16.trans h17) HB8m2.out)
  go_wp2_with fail
  refine (i_ReversePath a0 k0u0 _ ((Part.own).rd k0o0) y0).mono ?_
  rintro e w18 ⟨hpu0, rfl, hpo0, h18⟩
  obtain ⟨hpp0, hpc0, rfl, hpl0⟩ := ((Part.own).rd hpo0).shape; clear hpl0
  have e18 : Ext w18 (w18.alloc (.cells #[(.slice hpp0 ((revPath a0).parts).length hpc0)] 47)) := (Ext.refl _).alloc _
  have hB18 := blk_new w18 (.cells #[(.slice hpp0 ((revPath a0).parts).length hpc0)] 47)
  have HB18 := Lib.hid hB18; clear hB18
  have hc41 := blk1 (Ext.block (((h16.trans h17).trans h18).trans e18) HB0m2.out)
  have hc42 := blk1 (Ext.block (((h16.trans h17).trans h18).trans e18) HB4m2.out)
  have hc43 := blk1 (Ext.block (((h16.trans h17).trans h18).trans e18) HB6m2.out)
  have hc44 := blk1 (Ext.block (((h16.trans h17).trans h18).trans e18) HB8m2.out)
  go_wp2_with fail
  refine (l_eqPath (revPath a0) (revPath a0) (.slice hpp0 ((revPath a0).parts).length hpc0) (.slice spp0 ((revPath a0).parts).length spc0) _ ((Part.own).rd hpo0 |>.ext e18) ((Part.own).rd spo0_m2 |>.ext (((h16.trans h17).trans h18).trans e18))).mono ?_
  rintro e w20 ⟨rfl, h20⟩
  rw [show decide ((revPath a0) = (revPath a0)) = true from decide_eq_true rfl]
  have hc46 := blk1 (Ext.block ((((h16.trans h17).trans h18).trans e18).trans h20) HB0m2.out)
  have hc47 := blk1 (Ext.block ((((h16.trans h17).trans h18).trans e18).trans h20) HB4m2.out)
  have hc48 := blk1 (Ext.block ((((h16.trans h17).trans h18).trans e18).trans h20) HB6m2.out)
  have hc49 := blk1 (Ext.block ((((h16.trans h17).trans h18).trans e18).trans h20) HB8m2.out)
  have hc50 := blk1 (Ext.block h20 HB18.out)
  go_wp2_with fail
  refine (l_heldPath ((revPath a0).parts) (.slice gpp0 ((revPath a0).parts).length gpc0) (1) _ ((Part.own).rd mgo |>.ext ((((h16.trans h17).trans h18).trans e18).trans h20)) (by omega) (by omega)).mono ?_
  rintro e w21 ⟨rfl, h21⟩
  go_wp2_with fail
  go_ret
  exact ⟨rfl, (X2.trans (((((h16.trans h17).trans h18).trans e18).trans h20).trans h21))⟩

end Go.Proofs.Ytpeipodehflmaaa
