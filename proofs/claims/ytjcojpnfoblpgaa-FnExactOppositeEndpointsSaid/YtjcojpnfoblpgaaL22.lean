/- The walks of the exact laws over the ends of paths. No condition. -/
import Derived.Test.YtjcojpnfoblpgaaW22e
import Derived.Test.YtjcojpnfoblpgaaSeq
namespace Go.Proofs.Ytjcojpnfoblpgaa
open Go.ChangeShapes Go.WideShapes Go.ChangeAt Go.RowKit Go.Deep

set_option maxRecDepth 100000 in
set_option maxHeartbeats 4000000 in
theorem l_FnExactOppositeEndpoints (a0 : Pth) (v0h0 : Value) (a1 : Pth) (v1h0 : Value) (w : World) (r0h0 : RdS Part.rep w v0h0 a0.parts) (_ : a0.ok) (r1h0 : RdS Part.rep w v1h0 a1.parts) (_ : a1.ok) :
    Calls Try.prog 14 #[.agg #[v0h0], .agg #[v1h0]] w fun e w' => e = .returned (.bool true) ∧ Ext w w' := by
  go_enter Try.func14, Try.ntmps14
  have e0 : Ext w (w.alloc (.cells #[v0h0] 101)) := (Ext.refl _).alloc _
  have hB0 := blk_new w (.cells #[v0h0] 101)
  have HB0 := Lib.hid hB0; clear hB0
  have e1 : Ext (w.alloc (.cells #[v0h0] 101)) ((w.alloc (.cells #[v0h0] 101)).alloc (.cells #[v1h0] 101)) := (Ext.refl _).alloc _
  have hB1 := blk_new (w.alloc (.cells #[v0h0] 101)) (.cells #[v1h0] 101)
  simp only [nblk_alloc] at hB1
  have HB1 := Lib.hid hB1; clear hB1
  have hx0 : True := trivial; clear hx0
  have hc1 := blk1 (Ext.block e1 HB0.out)
  go_wp2_with fail
  refine (l_szPath a0 v0h0 (1048576) _ (r0h0.ext (e0.trans e1)) (by omega) (by omega)).mono ?_
  rintro e w3 ⟨rfl, h3⟩
  rcases Int.lt_or_le (1048576 - (a0.size : Int)) 0 with z0 | z0
  · rw [show szL (1048576) a0.size = -1 from if_pos z0]
    go_wp2_with fail
    go_ret
    exact ⟨rfl, ((e0.trans e1).trans h3)⟩
  rw [show szL (1048576) a0.size = 1048576 - (a0.size : Int) from if_neg (by omega)]
  have hc3 := blk1 (Ext.block (e1.trans h3) HB0.out)
  have hc4 := blk1 (Ext.block h3 HB1.out)
  go_wp2_with fail
  refine (l_szPath a1 v1h0 (1048576 - (a0.size : Int)) _ (r1h0.ext ((e0.trans e1).trans h3)) (by omega) (by omega)).mono ?_
  rintro e w4 ⟨rfl, h4⟩
  rcases Int.lt_or_le (1048576 - (a0.size : Int) - (a1.size : Int)) 0 with z1 | z1
  · rw [show szL (1048576 - (a0.size : Int)) a1.size = -1 from if_pos z1]
    go_wp2_with fail
    go_ret
    exact ⟨rfl, (((e0.trans e1).trans h3).trans h4)⟩
  rw [show szL (1048576 - (a0.size : Int)) a1.size = 1048576 - (a0.size : Int) - (a1.size : Int) from if_neg (by omega)]
  have y0 : a0.size ≤ 1048576 := by omega
  have y1 : a1.size ≤ 1048576 := by omega
  have hc5 := blk1 (Ext.block ((e1.trans h3).trans h4) HB0.out)
  have hc6 := blk1 (Ext.block (h3.trans h4) HB1.out)
  go_wp2_with fail
  refine planStep (.blk [0, 2] (.one 1 (.one 3 (.one 4 (.blk [5] .done))))) [] (by kernel_rfl) (by kernel_rfl) ?_
  refine blkStep (fun K HK => ?_)
  simp only [pick, List.filterMap_cons, List.filterMap_nil, List.getElem?_toArray, List.getElem?_cons_zero, List.getElem?_cons_succ]
  go_wp2_with fail
  refine HK.out _ _ ?_
  clear HK K
  refine oneStep (fun K HK => ?_)
  simp only [pick, List.filterMap_cons, List.filterMap_nil, List.getElem?_toArray, List.getElem?_cons_zero, List.getElem?_cons_succ]
  go_wp2_with fail
  refine (l_toPath a0 v0h0 _ (r0h0.ext (((e0.trans e1).trans h3).trans h4).drew) y0).mono ?_
  rintro e w5 ⟨s0u0, rfl, s0o0, h5⟩
  go_wp2_with fail
  refine HK.out _ _ (h5) ?_
  clear HK K
  refine oneStep (fun K HK => ?_)
  simp only [pick, List.filterMap_cons, List.filterMap_nil, List.getElem?_toArray, List.getElem?_cons_zero, List.getElem?_cons_succ]
  go_wp2_with fail
  refine (l_toPath a1 v1h0 _ (r1h0.ext ((((e0.trans e1).trans h3).trans h4).trans ((Ext.refl _).drew.trans h5))) y1).mono ?_
  rintro e w6 ⟨s1u0, rfl, s1o0, h6⟩
  go_wp2_with fail
  refine HK.out _ _ (h6) ?_
  clear HK K
  refine oneStep (fun K HK => ?_)
  simp only [pick, List.filterMap_cons, List.filterMap_nil, List.getElem?_toArray, List.getElem?_cons_zero, List.getElem?_cons_succ]
  go_wp2_with fail
  refine (s_OppositeEndpoints a0 s0u0 a1 s1u0 _ ((Part.ord s0o0).ext h6) ((Part.ord s1o0).ext (Ext.refl _)) y0 y1).mono ?_
  rintro e w7 ⟨rfl, h7⟩
  go_wp2_with fail
  refine HK.out _ _ (h7) ?_
  clear HK K
  refine blkStep (fun K HK => ?_)
  simp only [pick, List.filterMap_cons, List.filterMap_nil, List.getElem?_toArray, List.getElem?_cons_zero, List.getElem?_cons_succ]
  go_wp2_with fail
  refine HK.out _ _ ?_
  clear HK K
  refine doneStep (by kernel_rfl) ?_
  have hc7 := blk1 (Ext.block (((((e1.trans h3).trans h4).trans ((Ext.refl _).drew.trans h5)).trans h6).trans h7) HB0.out)
  have hc8 := blk1 (Ext.block ((((h3.trans h4).trans ((Ext.refl _).drew.trans h5)).trans h6).trans h7) HB1.out)
  go_wp2_with fail
  refine (l_toPath a0 v0h0 _ (r0h0.ext ((((((e0.trans e1).trans h3).trans h4).trans ((Ext.refl _).drew.trans h5)).trans h6).trans h7)) y0).mono ?_
  rintro e w8 ⟨x0u0, rfl, x0o0, h8⟩
  obtain ⟨xp00, xc00, rfl, xl00⟩ := (Part.ord x0o0).shape; clear xl00
  have e8 : Ext w8 (w8.alloc (.cells #[(.slice xp00 a0.parts.length xc00)] 106)) := (Ext.refl _).alloc _
  have hB8 := blk_new w8 (.cells #[(.slice xp00 a0.parts.length xc00)] 106)
  have HB8 := Lib.hid hB8; clear hB8
  have hc9 := blk1 (Ext.block (((((((e1.trans h3).trans h4).trans ((Ext.refl _).drew.trans h5)).trans h6).trans h7).trans h8).trans e8) HB0.out)
  have hc10 := blk1 (Ext.block ((((((h3.trans h4).trans ((Ext.refl _).drew.trans h5)).trans h6).trans h7).trans h8).trans e8) HB1.out)
  go_wp2_with fail
  refine (l_toPath a1 v1h0 _ (r1h0.ext ((((((((e0.trans e1).trans h3).trans h4).trans ((Ext.refl _).drew.trans h5)).trans h6).trans h7).trans h8).trans e8)) y1).mono ?_
  rintro e w10 ⟨x1u0, rfl, x1o0, h10⟩
  obtain ⟨xp10, xc10, rfl, xl10⟩ := (Part.ord x1o0).shape; clear xl10
  have e10 : Ext w10 (w10.alloc (.cells #[(.slice xp10 a1.parts.length xc10)] 106)) := (Ext.refl _).alloc _
  have hB10 := blk_new w10 (.cells #[(.slice xp10 a1.parts.length xc10)] 106)
  have HB10 := Lib.hid hB10; clear hB10
  have hc12 := blk1 (Ext.block (((((((((e1.trans h3).trans h4).trans ((Ext.refl _).drew.trans h5)).trans h6).trans h7).trans h8).trans e8).trans h10).trans e10) HB0.out)
  have hc13 := blk1 (Ext.block ((((((((h3.trans h4).trans ((Ext.refl _).drew.trans h5)).trans h6).trans h7).trans h8).trans e8).trans h10).trans e10) HB1.out)
  have hc14 := blk1 (Ext.block (h10.trans e10) HB8.out)
  go_wp2_with fail
  refine (i_OppositeEndpoints a0 (.slice xp00 a0.parts.length xc00) a1 (.slice xp10 a1.parts.length xc10) _ ((Part.ord x0o0).ext ((e8.trans h10).trans e10)) ((Part.ord x1o0).ext e10) y0 y1).mono ?_
  rintro e w12 ⟨rfl, h12⟩
  have hc16 := blk1 (Ext.block ((((((((((e1.trans h3).trans h4).trans ((Ext.refl _).drew.trans h5)).trans h6).trans h7).trans h8).trans e8).trans h10).trans e10).trans h12) HB0.out)
  have hc17 := blk1 (Ext.block (((((((((h3.trans h4).trans ((Ext.refl _).drew.trans h5)).trans h6).trans h7).trans h8).trans e8).trans h10).trans e10).trans h12) HB1.out)
  have hc18 := blk1 (Ext.block ((h10.trans e10).trans h12) HB8.out)
  have hc19 := blk1 (Ext.block h12 HB10.out)
  go_wp2_with fail
  refine planStep (.blk [0, 1] (.one 2 (.one 3 (.blk [4] .done)))) [] (by kernel_rfl) (by kernel_rfl) ?_
  refine blkStep (fun K HK => ?_)
  simp only [pick, List.filterMap_cons, List.filterMap_nil, List.getElem?_toArray, List.getElem?_cons_zero, List.getElem?_cons_succ]
  go_wp2_with fail
  refine HK.out _ _ ?_
  clear HK K
  refine oneStep (fun K HK => ?_)
  simp only [pick, List.filterMap_cons, List.filterMap_nil, List.getElem?_toArray, List.getElem?_cons_zero, List.getElem?_cons_succ]
  go_wp2_with fail
  refine (l_toPath a0 v0h0 _ (r0h0.ext (((((((((((e0.trans e1).trans h3).trans h4).trans ((Ext.refl _).drew.trans h5)).trans h6).trans h7).trans h8).trans e8).trans h10).trans e10).trans h12).drew) y0).mono ?_
  rintro e w13 ⟨t0u0, rfl, t0o0, h13⟩
  go_wp2_with fail
  refine HK.out _ _ (h13) ?_
  clear HK K
  refine oneStep (fun K HK => ?_)
  simp only [pick, List.filterMap_cons, List.filterMap_nil, List.getElem?_toArray, List.getElem?_cons_zero, List.getElem?_cons_succ]
  go_wp2_with fail
  refine (l_eqPath a0 a0 (.slice xp00 a0.parts.length xc00) t0u0 _ ((Part.ord x0o0).ext ((((e8.trans h10).trans e10).trans h12).trans ((Ext.refl _).drew.trans h13))) ((Part.ord t0o0).ext (Ext.refl _))).mono ?_
  rintro e w14 ⟨rfl, h14⟩
  rw [show decide (a0 = a0) = true from decide_eq_true rfl]
  go_wp2_with fail
  refine HK.out _ _ (h14) ?_
  clear HK K
  refine blkStep (fun K HK => ?_)
  simp only [pick, List.filterMap_cons, List.filterMap_nil, List.getElem?_toArray, List.getElem?_cons_zero, List.getElem?_cons_succ]
  go_wp2_with fail
  refine HK.out _ _ ?_
  clear HK K
  refine doneStep (by kernel_rfl) ?_
  have hc20 := blk1 (Ext.block ((((((((((((e1.trans h3).trans h4).trans ((Ext.refl _).drew.trans h5)).trans h6).trans h7).trans h8).trans e8).trans h10).trans e10).trans h12).trans ((Ext.refl _).drew.trans h13)).trans h14) HB0.out)
  have hc21 := blk1 (Ext.block (((((((((((h3.trans h4).trans ((Ext.refl _).drew.trans h5)).trans h6).trans h7).trans h8).trans e8).trans h10).trans e10).trans h12).trans ((Ext.refl _).drew.trans h13)).trans h14) HB1.out)
  have hc22 := blk1 (Ext.block ((((h10.trans e10).trans h12).trans ((Ext.refl _).drew.trans h13)).trans h14) HB8.out)
  have hc23 := blk1 (Ext.block ((h12.trans ((Ext.refl _).drew.trans h13)).trans h14) HB10.out)
  go_wp2_with fail
  refine planStep (.blk [0, 1] (.one 2 (.one 3 (.blk [4] .done)))) [] (by kernel_rfl) (by kernel_rfl) ?_
  refine blkStep (fun K HK => ?_)
  simp only [pick, List.filterMap_cons, List.filterMap_nil, List.getElem?_toArray, List.getElem?_cons_zero, List.getElem?_cons_succ]
  go_wp2_with fail
  refine HK.out _ _ ?_
  clear HK K
  refine oneStep (fun K HK => ?_)
  simp only [pick, List.filterMap_cons, List.filterMap_nil, List.getElem?_toArray, List.getElem?_cons_zero, List.getElem?_cons_succ]
  go_wp2_with fail
  refine (l_toPath a1 v1h0 _ (r1h0.ext (((((((((((((e0.trans e1).trans h3).trans h4).trans ((Ext.refl _).drew.trans h5)).trans h6).trans h7).trans h8).trans e8).trans h10).trans e10).trans h12).trans ((Ext.refl _).drew.trans h13)).trans h14).drew) y1).mono ?_
  rintro e w15 ⟨t1u0, rfl, t1o0, h15⟩
  go_wp2_with fail
  refine HK.out _ _ (h15) ?_
  clear HK K
  refine oneStep (fun K HK => ?_)
  simp only [pick, List.filterMap_cons, List.filterMap_nil, List.getElem?_toArray, List.getElem?_cons_zero, List.getElem?_cons_succ]
  go_wp2_with fail
  refine (l_eqPath a1 a1 (.slice xp10 a1.parts.length xc10) t1u0 _ ((Part.ord x1o0).ext ((((e10.trans h12).trans ((Ext.refl _).drew.trans h13)).trans h14).trans ((Ext.refl _).drew.trans h15))) ((Part.ord t1o0).ext (Ext.refl _))).mono ?_
  rintro e w16 ⟨rfl, h16⟩
  rw [show decide (a1 = a1) = true from decide_eq_true rfl]
  go_wp2_with fail
  refine HK.out _ _ (h16) ?_
  clear HK K
  refine blkStep (fun K HK => ?_)
  simp only [pick, List.filterMap_cons, List.filterMap_nil, List.getElem?_toArray, List.getElem?_cons_zero, List.getElem?_cons_succ]
  go_wp2_with fail
  refine HK.out _ _ ?_
  clear HK K
  refine doneStep (by kernel_rfl) ?_
  go_wp2_with fail
  go_ret
  exact ⟨rfl, (((((((((((((((e0.trans e1).trans h3).trans h4).trans ((Ext.refl _).drew.trans h5)).trans h6).trans h7).trans h8).trans e8).trans h10).trans e10).trans h12).trans ((Ext.refl _).drew.trans h13)).trans h14).trans ((Ext.refl _).drew.trans h15)).trans h16)⟩

end Go.Proofs.Ytjcojpnfoblpgaa
