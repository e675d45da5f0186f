/- The walk of the exact law over paths that serve in both directions. No condition. -/
import Derived.Test.YtjjoijidlgkimaaW22u
import Derived.Test.YtjjoijidlgkimaaSeq
namespace Go.Proofs.Ytjjoijidlgkimaa
open Go.ChangeShapes Go.WideShapes Go.ChangeAt Go.RowKit Go.Deep

set_option maxRecDepth 100000 in
set_option maxHeartbeats 4000000 in
theorem l_FnExactBidirectional (a0 : Topo) (v0h0 : Value) (v0h1 : Value) (a1 : Pth) (v1h0 : Value) (a2 : Int) (w : World) (r0h0 : RdS ASd.rep w v0h0 a0.ases) (r0h1 : RdS Lnk.rep w v0h1 a0.links) (_ : a0.ok) (r1h0 : RdS Part.rep w v1h0 a1.parts) (_ : a1.ok) (_ : I64 a2) :
    Calls Try.prog 9 #[.agg #[v0h0, v0h1], .agg #[v1h0], .int .i64 a2] w fun e w' => e = .returned (.bool true) ∧ Ext w w' := by
  go_enter Try.func9, Try.ntmps9
  have e0 : Ext w (w.alloc (.cells #[v0h0, v0h1] 56)) := (Ext.refl _).alloc _
  have hB0 := blk_new w (.cells #[v0h0, v0h1] 56)
  have HB0 := Lib.hid hB0; clear hB0
  have e1 : Ext (w.alloc (.cells #[v0h0, v0h1] 56)) ((w.alloc (.cells #[v0h0, v0h1] 56)).alloc (.cells #[v1h0] 60)) := (Ext.refl _).alloc _
  have hB1 := blk_new (w.alloc (.cells #[v0h0, v0h1] 56)) (.cells #[v1h0] 60)
  simp only [nblk_alloc] at hB1
  have HB1 := Lib.hid hB1; clear hB1
  have hx0 : True := trivial; clear hx0
  have hc1 := blk2 (Ext.block e1 HB0.out)
  go_wp2_with fail
  refine (l_szTopology a0 v0h0 v0h1 (1048576) _ (r0h0.ext (e0.trans e1)) (r0h1.ext (e0.trans e1)) (by omega) (by omega)).mono ?_
  rintro e w3 ⟨rfl, h3⟩
  rcases Int.lt_or_le (1048576 - (a0.size : Int)) 0 with z0 | z0
  · rw [show szL (1048576) a0.size = -1 from if_pos z0]
    go_wp2_with fail
    go_ret
    exact ⟨rfl, ((e0.trans e1).trans h3)⟩
  rw [show szL (1048576) a0.size = 1048576 - (a0.size : Int) from if_neg (by omega)]
  have hc3 := blk2 (Ext.block (e1.trans h3) HB0.out)
  have hc4 := blk1 (Ext.block h3 HB1.out)
  go_wp2_with fail
  refine (l_szPath a1 v1h0 (1048576 - (a0.size : Int)) _ (r1h0.ext ((e0.trans e1).trans h3)) (by omega) (by omega)).mono ?_
  rintro e w4 ⟨rfl, h4⟩
  rcases Int.lt_or_le (1048576 - (a0.size : Int) - (a1.size : Int)) 0 with z1 | z1
  · rw [show szL (1048576 - (a0.size : Int)) a1.size = -1 from if_pos z1]
    go_wp2_with fail
    go_ret
    exact ⟨rfl, (((e0.trans e1).trans h3).trans h4)⟩
  rw [show szL (1048576 - (a0.size : Int)) a1.size = 1048576 - (a0.size : Int) - (a1.size : Int) from if_neg (by omega)]
  have y0 : a0.size ≤ 1048576 := by omega
  have y1 : a1.size ≤ 1048576 := by omega
  have hc5 := blk2 (Ext.block ((e1.trans h3).trans h4) HB0.out)
  have hc6 := blk1 (Ext.block (h3.trans h4) HB1.out)
  go_wp2_with fail
  refine planStep (.blk [0, 2, 4] (.one 1 (.one 3 (.one 5 (.blk [6] .done))))) [] (by kernel_rfl) (by kernel_rfl) ?_
  refine blkStep (fun K HK => ?_)
  simp only [pick, List.filterMap_cons, List.filterMap_nil, List.getElem?_toArray, List.getElem?_cons_zero, List.getElem?_cons_succ]
  go_wp2_with fail
  refine HK.out _ _ ?_
  clear HK K
  refine oneStep (fun K HK => ?_)
  simp only [pick, List.filterMap_cons, List.filterMap_nil, List.getElem?_toArray, List.getElem?_cons_zero, List.getElem?_cons_succ]
  go_wp2_with fail
  refine (l_toTopology a0 v0h0 v0h1 _ (r0h0.ext (((e0.trans e1).trans h3).trans h4).drew) (r0h1.ext (((e0.trans e1).trans h3).trans h4).drew) y0).mono ?_
  rintro e w5 ⟨s0u0, s0u1, rfl, s0o0, s0o1, h5⟩
  go_wp2_with fail
  refine HK.out _ _ (h5) ?_
  clear HK K
  refine oneStep (fun K HK => ?_)
  simp only [pick, List.filterMap_cons, List.filterMap_nil, List.getElem?_toArray, List.getElem?_cons_zero, List.getElem?_cons_succ]
  go_wp2_with fail
  refine (l_toPath a1 v1h0 _ (r1h0.ext ((((e0.trans e1).trans h3).trans h4).trans ((Ext.refl _).drew.trans h5))) y1).mono ?_
  rintro e w6 ⟨s1u0, rfl, s1o0, h6⟩
  go_wp2_with fail
  refine HK.out _ _ (h6) ?_
  clear HK K
  refine oneStep (fun K HK => ?_)
  simp only [pick, List.filterMap_cons, List.filterMap_nil, List.getElem?_toArray, List.getElem?_cons_zero, List.getElem?_cons_succ]
  go_wp2_with fail
  refine (s_Bidirectional a0 s0u0 s0u1 a1 s1u0 a2 _ ((OwnF.rd (hf := ASd.flen) s0o0).ext h6) ((OwnF.rd (hf := Lnk.flen) s0o1).ext h6) ((Part.ord s1o0).ext (Ext.refl _)) y1).mono ?_
  rintro e w7 ⟨rfl, h7⟩
  go_wp2_with fail
  refine HK.out _ _ (h7) ?_
  clear HK K
  refine blkStep (fun K HK => ?_)
  simp only [pick, List.filterMap_cons, List.filterMap_nil, List.getElem?_toArray, List.getElem?_cons_zero, List.getElem?_cons_succ]
  go_wp2_with fail
  refine HK.out _ _ ?_
  clear HK K
  refine doneStep (by kernel_rfl) ?_
  have hc7 := blk2 (Ext.block (((((e1.trans h3).trans h4).trans ((Ext.refl _).drew.trans h5)).trans h6).trans h7) HB0.out)
  have hc8 := blk1 (Ext.block ((((h3.trans h4).trans ((Ext.refl _).drew.trans h5)).trans h6).trans h7) HB1.out)
  go_wp2_with fail
  refine (l_toTopology a0 v0h0 v0h1 _ (r0h0.ext ((((((e0.trans e1).trans h3).trans h4).trans ((Ext.refl _).drew.trans h5)).trans h6).trans h7)) (r0h1.ext ((((((e0.trans e1).trans h3).trans h4).trans ((Ext.refl _).drew.trans h5)).trans h6).trans h7)) y0).mono ?_
  rintro e w8 ⟨x0u0, x0u1, rfl, x0o0, x0o1, h8⟩
  obtain ⟨xp00, xc00, rfl, xl00⟩ := (OwnF.rd (hf := ASd.flen) x0o0).shape; clear xl00
  obtain ⟨xp01, xc01, rfl, xl01⟩ := (OwnF.rd (hf := Lnk.flen) x0o1).shape; clear xl01
  have e8 : Ext w8 (w8.alloc (.cells #[(.slice xp00 a0.ases.length xc00), (.slice xp01 a0.links.length xc01)] 71)) := (Ext.refl _).alloc _
  have hB8 := blk_new w8 (.cells #[(.slice xp00 a0.ases.length xc00), (.slice xp01 a0.links.length xc01)] 71)
  have HB8 := Lib.hid hB8; clear hB8
  have hc9 := blk2 (Ext.block (((((((e1.trans h3).trans h4).trans ((Ext.refl _).drew.trans h5)).trans h6).trans h7).trans h8).trans e8) HB0.out)
  have hc10 := blk1 (Ext.block ((((((h3.trans h4).trans ((Ext.refl _).drew.trans h5)).trans h6).trans h7).trans h8).trans e8) HB1.out)
  go_wp2_with fail
  refine (l_toPath a1 v1h0 _ (r1h0.ext ((((((((e0.trans e1).trans h3).trans h4).trans ((Ext.refl _).drew.trans h5)).trans h6).trans h7).trans h8).trans e8)) y1).mono ?_
  rintro e w10 ⟨x1u0, rfl, x1o0, h10⟩
  obtain ⟨xp10, xc10, rfl, xl10⟩ := (Part.ord x1o0).shape; clear xl10
  have e10 : Ext w10 (w10.alloc (.cells #[(.slice xp10 a1.parts.length xc10)] 76)) := (Ext.refl _).alloc _
  have hB10 := blk_new w10 (.cells #[(.slice xp10 a1.parts.length xc10)] 76)
  have HB10 := Lib.hid hB10; clear hB10
  have hc12 := blk2 (Ext.block (((((((((e1.trans h3).trans h4).trans ((Ext.refl _).drew.trans h5)).trans h6).trans h7).trans h8).trans e8).trans h10).trans e10) HB0.out)
  have hc13 := blk1 (Ext.block ((((((((h3.trans h4).trans ((Ext.refl _).drew.trans h5)).trans h6).trans h7).trans h8).trans e8).trans h10).trans e10) HB1.out)
  have hc14 := blk2 (Ext.block (h10.trans e10) HB8.out)
  go_wp2_with fail
  refine (i_Bidirectional a0 (.slice xp00 a0.ases.length xc00) (.slice xp01 a0.links.length xc01) a1 (.slice xp10 a1.parts.length xc10) a2 _ ((OwnF.rd (hf := ASd.flen) x0o0).ext ((e8.trans h10).trans e10)) ((OwnF.rd (hf := Lnk.flen) x0o1).ext ((e8.trans h10).trans e10)) ((Part.ord x1o0).ext e10) y1).mono ?_
  rintro e w12 ⟨rfl, h12⟩
  have hc16 := blk2 (Ext.block ((((((((((e1.trans h3).trans h4).trans ((Ext.refl _).drew.trans h5)).trans h6).trans h7).trans h8).trans e8).trans h10).trans e10).trans h12) HB0.out)
  have hc17 := blk1 (Ext.block (((((((((h3.trans h4).trans ((Ext.refl _).drew.trans h5)).trans h6).trans h7).trans h8).trans e8).trans h10).trans e10).trans h12) HB1.out)
  have hc18 := blk2 (Ext.block ((h10.trans e10).trans h12) HB8.out)
  have hc19 := blk1 (Ext.block h12 HB10.out)
  go_wp2_with fail
  refine planStep (.blk [0, 1] (.one 2 (.one 3 (.blk [4] .done)))) [] (by kernel_rfl) (by kernel_rfl) ?_
  refine blkStep (fun K HK => ?_)
  simp only [pick, List.filterMap_cons, List.filterMap_nil, List.getElem?_toArray, List.getElem?_cons_zero, List.getElem?_cons_succ]
  go_wp2_with fail
  refine HK.out _ _ ?_
  clear HK K
  refine oneStep (fun K HK => ?_)
  simp only [pick, List.filterMap_cons, List.filterMap_nil, List.getElem?_toArray, List.getElem?_cons_zero, List.getElem?_cons_succ]
  go_wp2_with fail
  refine (l_toTopology a0 v0h0 v0h1 _ (r0h0.ext (((((((((((e0.trans e1).trans h3).trans h4).trans ((Ext.refl _).drew.trans h5)).trans h6).trans h7).trans h8).trans e8).trans h10).trans e10).trans h12).drew) (r0h1.ext (((((((((((e0.trans e1).trans h3).trans h4).trans ((Ext.refl _).drew.trans h5)).trans h6).trans h7).trans h8).trans e8).trans h10).trans e10).trans h12).drew) y0).mono ?_
  rintro e w13 ⟨t0u0, t0u1, rfl, t0o0, t0o1, h13⟩
  go_wp2_with fail
  refine HK.out _ _ (h13) ?_
  clear HK K
  refine oneStep (fun K HK => ?_)
  simp only [pick, List.filterMap_cons, List.filterMap_nil, List.getElem?_toArray, List.getElem?_cons_zero, List.getElem?_cons_succ]
  go_wp2_with fail
  refine (l_eqTopology a0 a0 (.slice xp00 a0.ases.length xc00) (.slice xp01 a0.links.length xc01) t0u0 t0u1 _ ((OwnF.rd (hf := ASd.flen) x0o0).ext ((((e8.trans h10).trans e10).trans h12).trans ((Ext.refl _).drew.trans h13))) ((OwnF.rd (hf := Lnk.flen) x0o1).ext ((((e8.trans h10).trans e10).trans h12).trans ((Ext.refl _).drew.trans h13))) ((OwnF.rd (hf := ASd.flen) t0o0).ext (Ext.refl _)) ((OwnF.rd (hf := Lnk.flen) t0o1).ext (Ext.refl _))).mono ?_
  rintro e w14 ⟨rfl, h14⟩
  rw [show decide (a0 = a0) = true from decide_eq_true rfl]
  go_wp2_with fail
  refine HK.out _ _ (h14) ?_
  clear HK K
  refine blkStep (fun K HK => ?_)
  simp only [pick, List.filterMap_cons, List.filterMap_nil, List.getElem?_toArray, List.getElem?_cons_zero, List.getElem?_cons_succ]
  go_wp2_with fail
  refine HK.out _ _ ?_
  clear HK K
  refine doneStep (by kernel_rfl) ?_
  have hc20 := blk2 (Ext.block ((((((((((((e1.trans h3).trans h4).trans ((Ext.refl _).drew.trans h5)).trans h6).trans h7).trans h8).trans e8).trans h10).trans e10).trans h12).trans ((Ext.refl _).drew.trans h13)).trans h14) HB0.out)
  have hc21 := blk1 (Ext.block (((((((((((h3.trans h4).trans ((Ext.refl _).drew.trans h5)).trans h6).trans h7).trans h8).trans e8).trans h10).trans e10).trans h12).trans ((Ext.refl _).drew.trans h13)).trans h14) HB1.out)
  have hc22 := blk2 (Ext.block ((((h10.trans e10).trans h12).trans ((Ext.refl _).drew.trans h13)).trans h14) HB8.out)
  have hc23 := blk1 (Ext.block ((h12.trans ((Ext.refl _).drew.trans h13)).trans h14) HB10.out)
  go_wp2_with fail
  refine planStep (.blk [0, 1] (.one 2 (.one 3 (.blk [4] .done)))) [] (by kernel_rfl) (by kernel_rfl) ?_
  refine blkStep (fun K HK => ?_)
  simp only [pick, List.filterMap_cons, List.filterMap_nil, List.getElem?_toArray, List.getElem?_cons_zero, List.getElem?_cons_succ]
  go_wp2_with fail
  refine HK.out _ _ ?_
  clear HK K
  refine oneStep (fun K HK => ?_)
  simp only [pick, List.filterMap_cons, List.filterMap_nil, List.getElem?_toArray, List.getElem?_cons_zero, List.getElem?_cons_succ]
  go_wp2_with fail
  refine (l_toPath a1 v1h0 _ (r1h0.ext (((((((((((((e0.trans e1).trans h3).trans h4).trans ((Ext.refl _).drew.trans h5)).trans h6).trans h7).trans h8).trans e8).trans h10).trans e10).trans h12).trans ((Ext.refl _).drew.trans h13)).trans h14).drew) y1).mono ?_
  rintro e w15 ⟨t1u0, rfl, t1o0, h15⟩
  go_wp2_with fail
  refine HK.out _ _ (h15) ?_
  clear HK K
  refine oneStep (fun K HK => ?_)
  simp only [pick, List.filterMap_cons, List.filterMap_nil, List.getElem?_toArray, List.getElem?_cons_zero, List.getElem?_cons_succ]
  go_wp2_with fail
  refine (l_eqPath a1 a1 (.slice xp10 a1.parts.length xc10) t1u0 _ ((Part.ord x1o0).ext ((((e10.trans h12).trans ((Ext.refl _).drew.trans h13)).trans h14).trans ((Ext.refl _).drew.trans h15))) ((Part.ord t1o0).ext (Ext.refl _))).mono ?_
  rintro e w16 ⟨rfl, h16⟩
  rw [show decide (a1 = a1) = true from decide_eq_true rfl]
  go_wp2_with fail
  refine HK.out _ _ (h16) ?_
  clear HK K
  refine blkStep (fun K HK => ?_)
  simp only [pick, List.filterMap_cons, List.filterMap_nil, List.getElem?_toArray, List.getElem?_cons_zero, List.getElem?_cons_succ]
  go_wp2_with fail
  refine HK.out _ _ ?_
  clear HK K
  refine doneStep (by kernel_rfl) ?_
  go_wp2_with fail
  go_ret
  exact ⟨rfl, (((((((((((((((e0.trans e1).trans h3).trans h4).trans ((Ext.refl _).drew.trans h5)).trans h6).trans h7).trans h8).trans e8).trans h10).trans e10).trans h12).trans ((Ext.refl _).drew.trans h13)).trans h14).trans ((Ext.refl _).drew.trans h15)).trans h16)⟩

end Go.Proofs.Ytjjoijidlgkimaa
