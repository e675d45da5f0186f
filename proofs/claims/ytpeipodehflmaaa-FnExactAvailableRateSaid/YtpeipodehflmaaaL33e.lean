/- The walks of the exact laws over rates along paths. No condition. -/
import Derived.Test.YtpeipodehflmaaaW33e
import Derived.Test.YtpeipodehflmaaaSeq
namespace Go.Proofs.Ytpeipodehflmaaa
open Go.ChangeShapes Go.WideShapes Go.ChangeAt Go.RowKit Go.Deep

set_option maxRecDepth 100000 in
set_option maxHeartbeats 4000000 in
theorem l_FnExactPathReserved (a0 : List Resv) (v0 : Value) (a1 : Int) (a2 : Pth) (v2h0 : Value) (a3 : Int) (w : World) (r0 : RdS Resv.rep w v0 a0) (_ : ∀ x ∈ a0, Resv.ok x) (_ : I64 a1) (r2h0 : RdS Part.rep w v2h0 a2.parts) (_ : a2.ok) (_ : I64 a3) :
    Calls Try.prog 6 #[v0, .int .i64 a1, .agg #[v2h0], .int .i64 a3] w fun e w' => e = .returned (.bool true) ∧ Ext w w' := by
  go_enter Try.func6, Try.ntmps6
  have e0 : Ext w (w.alloc (.cells #[v2h0] 40)) := (Ext.refl _).alloc _
  have hB0 := blk_new w (.cells #[v2h0] 40)
  have HB0 := Lib.hid hB0; clear hB0
  have hx0 : True := trivial; clear hx0
  go_wp2_with fail
  refine (l_szReservationS a0 _ (1048576) _ (r0.ext e0) (by omega) (by omega)).mono ?_
  rintro e w2 ⟨rfl, h2⟩
  rcases Int.lt_or_le (1048576 - (a0.length : Int)) 0 with z0 | z0
  · rw [show szL (1048576) a0.length = -1 from if_pos z0]
    go_wp2_with fail
    go_ret
    exact ⟨rfl, (e0.trans h2)⟩
  rw [show szL (1048576) a0.length = 1048576 - (a0.length : Int) from if_neg (by omega)]
  have hc2 := blk1 (Ext.block h2 HB0.out)
  go_wp2_with fail
  refine (l_szPath a2 v2h0 (1048576 - (a0.length : Int)) _ (r2h0.ext (e0.trans h2)) (by omega) (by omega)).mono ?_
  rintro e w3 ⟨rfl, h3⟩
  rcases Int.lt_or_le (1048576 - (a0.length : Int) - (a2.size : Int)) 0 with z2 | z2
  · rw [show szL (1048576 - (a0.length : Int)) a2.size = -1 from if_pos z2]
    go_wp2_with fail
    go_ret
    exact ⟨rfl, ((e0.trans h2).trans h3)⟩
  rw [show szL (1048576 - (a0.length : Int)) a2.size = 1048576 - (a0.length : Int) - (a2.size : Int) from if_neg (by omega)]
  have y0 : a0.length ≤ 1048576 := by omega
  have y2 : a2.size ≤ 1048576 := by omega
  have hc3 := blk1 (Ext.block (h2.trans h3) HB0.out)
  go_wp2_with fail
  refine planStep (.blk [0, 2, 3, 5] (.one 1 (.one 4 (.one 6 (.blk [7] .done))))) [] (by kernel_rfl) (by kernel_rfl) ?_
  refine blkStep (fun K HK => ?_)
  simp only [pick, List.filterMap_cons, List.filterMap_nil, List.getElem?_toArray, List.getElem?_cons_zero, List.getElem?_cons_succ]
  go_wp2_with fail
  refine HK.out _ _ ?_
  clear HK K
  refine oneStep (fun K HK => ?_)
  simp only [pick, List.filterMap_cons, List.filterMap_nil, List.getElem?_toArray, List.getElem?_cons_zero, List.getElem?_cons_succ]
  go_wp2_with fail
  refine (l_toReservationS a0 v0 _ (r0.ext ((e0.trans h2).trans h3).drew) y0).mono ?_
  rintro e w4 ⟨s0, rfl, s0o, h4⟩
  go_wp2_with fail
  refine HK.out _ _ (h4) ?_
  clear HK K
  refine oneStep (fun K HK => ?_)
  simp only [pick, List.filterMap_cons, List.filterMap_nil, List.getElem?_toArray, List.getElem?_cons_zero, List.getElem?_cons_succ]
  go_wp2_with fail
  refine (l_toPath a2 v2h0 _ (r2h0.ext (((e0.trans h2).trans h3).trans ((Ext.refl _).drew.trans h4))) y2).mono ?_
  rintro e w5 ⟨s2u0, rfl, s2o0, h5⟩
  go_wp2_with fail
  refine HK.out _ _ (h5) ?_
  clear HK K
  refine oneStep (fun K HK => ?_)
  simp only [pick, List.filterMap_cons, List.filterMap_nil, List.getElem?_toArray, List.getElem?_cons_zero, List.getElem?_cons_succ]
  go_wp2_with fail
  refine (s_PathReserved a0 s0 a1 a2 s2u0 a3 _ ((OwnF.rd (hf := Resv.flen) s0o).ext h5) ((Part.ord s2o0).ext (Ext.refl _)) y2).mono ?_
  rintro e w6 ⟨rfl, h6⟩
  go_wp2_with fail
  refine HK.out _ _ (h6) ?_
  clear HK K
  refine blkStep (fun K HK => ?_)
  simp only [pick, List.filterMap_cons, List.filterMap_nil, List.getElem?_toArray, List.getElem?_cons_zero, List.getElem?_cons_succ]
  go_wp2_with fail
  refine HK.out _ _ ?_
  clear HK K
  refine doneStep (by kernel_rfl) ?_
  have hc4 := blk1 (Ext.block ((((h2.trans h3).trans ((Ext.refl _).drew.trans h4)).trans h5).trans h6) HB0.out)
  go_wp2_with fail
  refine (l_toReservationS a0 v0 _ (r0.ext (((((e0.trans h2).trans h3).trans ((Ext.refl _).drew.trans h4)).trans h5).trans h6)) y0).mono ?_
  rintro e w7 ⟨x0, rfl, x0o, h7⟩
  have hc5 := blk1 (Ext.block (((((h2.trans h3).trans ((Ext.refl _).drew.trans h4)).trans h5).trans h6).trans h7) HB0.out)
  go_wp2_with fail
  refine (l_toPath a2 v2h0 _ (r2h0.ext ((((((e0.trans h2).trans h3).trans ((Ext.refl _).drew.trans h4)).trans h5).trans h6).trans h7)) y2).mono ?_
  rintro e w8 ⟨x2u0, rfl, x2o0, h8⟩
  obtain ⟨xp20, xc20, rfl, xl20⟩ := (Part.ord x2o0).shape; clear xl20
  have e8 : Ext w8 (w8.alloc (.cells #[(.slice xp20 a2.parts.length xc20)] 47)) := (Ext.refl _).alloc _
  have hB8 := blk_new w8 (.cells #[(.slice xp20 a2.parts.length xc20)] 47)
  have HB8 := Lib.hid hB8; clear hB8
  have hc6 := blk1 (Ext.block (((((((h2.trans h3).trans ((Ext.refl _).drew.trans h4)).trans h5).trans h6).trans h7).trans h8).trans e8) HB0.out)
  go_wp2_with fail
  refine (i_PathReserved a0 x0 a1 a2 (.slice xp20 a2.parts.length xc20) a3 _ ((OwnF.rd (hf := Resv.flen) x0o).ext (h8.trans e8)) ((Part.ord x2o0).ext e8) y2).mono ?_
  rintro e w10 ⟨rfl, h10⟩
  have hc8 := blk1 (Ext.block ((((((((h2.trans h3).trans ((Ext.refl _).drew.trans h4)).trans h5).trans h6).trans h7).trans h8).trans e8).trans h10) HB0.out)
  have hc9 := blk1 (Ext.block h10 HB8.out)
  go_wp2_with fail
  refine (l_toReservationS a0 v0 _ (r0.ext (((((((((e0.trans h2).trans h3).trans ((Ext.refl _).drew.trans h4)).trans h5).trans h6).trans h7).trans h8).trans e8).trans h10)) y0).mono ?_
  rintro e w11 ⟨t0, rfl, t0o, h11⟩
  have hc10 := blk1 (Ext.block (((((((((h2.trans h3).trans ((Ext.refl _).drew.trans h4)).trans h5).trans h6).trans h7).trans h8).trans e8).trans h10).trans h11) HB0.out)
  have hc11 := blk1 (Ext.block (h10.trans h11) HB8.out)
  go_wp2_with fail
  refine (l_eqReservationS a0 a0 x0 t0 _ ((OwnF.rd (hf := Resv.flen) x0o).ext (((h8.trans e8).trans h10).trans h11)) ((OwnF.rd (hf := Resv.flen) t0o).ext (Ext.refl _))).mono ?_
  rintro e w12 ⟨rfl, h12⟩
  rw [show decide (a0 = a0) = true from decide_eq_true rfl]
  have hc12 := blk1 (Ext.block ((((((((((h2.trans h3).trans ((Ext.refl _).drew.trans h4)).trans h5).trans h6).trans h7).trans h8).trans e8).trans h10).trans h11).trans h12) HB0.out)
  have hc13 := blk1 (Ext.block ((h10.trans h11).trans h12) HB8.out)
  go_wp2_with fail
  refine planStep (.blk [0, 1] (.one 2 (.one 3 (.blk [4] .done)))) [] (by kernel_rfl) (by kernel_rfl) ?_
  refine blkStep (fun K HK => ?_)
  simp only [pick, List.filterMap_cons, List.filterMap_nil, List.getElem?_toArray, List.getElem?_cons_zero, List.getElem?_cons_succ]
  go_wp2_with fail
  refine HK.out _ _ ?_
  clear HK K
  refine oneStep (fun K HK => ?_)
  simp only [pick, List.filterMap_cons, List.filterMap_nil, List.getElem?_toArray, List.getElem?_cons_zero, List.getElem?_cons_succ]
  go_wp2_with fail
  refine (l_toPath a2 v2h0 _ (r2h0.ext (((((((((((e0.trans h2).trans h3).trans ((Ext.refl _).drew.trans h4)).trans h5).trans h6).trans h7).trans h8).trans e8).trans h10).trans h11).trans h12).drew) y2).mono ?_
  rintro e w13 ⟨t2u0, rfl, t2o0, h13⟩
  go_wp2_with fail
  refine HK.out _ _ (h13) ?_
  clear HK K
  refine oneStep (fun K HK => ?_)
  simp only [pick, List.filterMap_cons, List.filterMap_nil, List.getElem?_toArray, List.getElem?_cons_zero, List.getElem?_cons_succ]
  go_wp2_with fail
  refine (l_eqPath a2 a2 (.slice xp20 a2.parts.length xc20) t2u0 _ ((Part.ord x2o0).ext ((((e8.trans h10).trans h11).trans h12).trans ((Ext.refl _).drew.trans h13))) ((Part.ord t2o0).ext (Ext.refl _))).mono ?_
  rintro e w14 ⟨rfl, h14⟩
  rw [show decide (a2 = a2) = true from decide_eq_true rfl]
  go_wp2_with fail
  refine HK.out _ _ (h14) ?_
  clear HK K
  refine blkStep (fun K HK => ?_)
  simp only [pick, List.filterMap_cons, List.filterMap_nil, List.getElem?_toArray, List.getElem?_cons_zero, List.getElem?_cons_succ]
  go_wp2_with fail
  refine HK.out _ _ ?_
  clear HK K
  refine doneStep (by kernel_rfl) ?_
  go_wp2_with fail
  go_ret
  exact ⟨rfl, (((((((((((((e0.trans h2).trans h3).trans ((Ext.refl _).drew.trans h4)).trans h5).trans h6).trans h7).trans h8).trans e8).trans h10).trans h11).trans h12).trans ((Ext.refl _).drew.trans h13)).trans h14)⟩

set_option maxRecDepth 100000 in
set_option maxHeartbeats 4000000 in
theorem l_FnExactPathRate (a0 : List Resv) (v0 : Value) (a1 : Int) (a2 : Pth) (v2h0 : Value) (a3 : Int) (w : World) (r0 : RdS Resv.rep w v0 a0) (_ : ∀ x ∈ a0, Resv.ok x) (_ : I64 a1) (r2h0 : RdS Part.rep w v2h0 a2.parts) (_ : a2.ok) (_ : I64 a3) :
    Calls Try.prog 7 #[v0, .int .i64 a1, .agg #[v2h0], .int .i64 a3] w fun e w' => e = .returned (.bool true) ∧ Ext w w' := by
  go_enter Try.func7, Try.ntmps7
  have e0 : Ext w (w.alloc (.cells #[v2h0] 40)) := (Ext.refl _).alloc _
  have hB0 := blk_new w (.cells #[v2h0] 40)
  have HB0 := Lib.hid hB0; clear hB0
  have hx0 : True := trivial; clear hx0
  go_wp2_with fail
  refine (l_szReservationS a0 _ (1048576) _ (r0.ext e0) (by omega) (by omega)).mono ?_
  rintro e w2 ⟨rfl, h2⟩
  rcases Int.lt_or_le (1048576 - (a0.length : Int)) 0 with z0 | z0
  · rw [show szL (1048576) a0.length = -1 from if_pos z0]
    go_wp2_with fail
    go_ret
    exact ⟨rfl, (e0.trans h2)⟩
  rw [show szL (1048576) a0.length = 1048576 - (a0.length : Int) from if_neg (by omega)]
  have hc2 := blk1 (Ext.block h2 HB0.out)
  go_wp2_with fail
  refine (l_szPath a2 v2h0 (1048576 - (a0.length : Int)) _ (r2h0.ext (e0.trans h2)) (by omega) (by omega)).mono ?_
  rintro e w3 ⟨rfl, h3⟩
  rcases Int.lt_or_le (1048576 - (a0.length : Int) - (a2.size : Int)) 0 with z2 | z2
  · rw [show szL (1048576 - (a0.length : Int)) a2.size = -1 from if_pos z2]
    go_wp2_with fail
    go_ret
    exact ⟨rfl, ((e0.trans h2).trans h3)⟩
  rw [show szL (1048576 - (a0.length : Int)) a2.size = 1048576 - (a0.length : Int) - (a2.size : Int) from if_neg (by omega)]
  have y0 : a0.length ≤ 1048576 := by omega
  have y2 : a2.size ≤ 1048576 := by omega
  have hc3 := blk1 (Ext.block (h2.trans h3) HB0.out)
  go_wp2_with fail
  refine planStep (.blk [0, 2, 3, 5] (.one 1 (.one 4 (.one 6 (.blk [7] .done))))) [] (by kernel_rfl) (by kernel_rfl) ?_
  refine blkStep (fun K HK => ?_)
  simp only [pick, List.filterMap_cons, List.filterMap_nil, List.getElem?_toArray, List.getElem?_cons_zero, List.getElem?_cons_succ]
  go_wp2_with fail
  refine HK.out _ _ ?_
  clear HK K
  refine oneStep (fun K HK => ?_)
  simp only [pick, List.filterMap_cons, List.filterMap_nil, List.getElem?_toArray, List.getElem?_cons_zero, List.getElem?_cons_succ]
  go_wp2_with fail
  refine (l_toReservationS a0 v0 _ (r0.ext ((e0.trans h2).trans h3).drew) y0).mono ?_
  rintro e w4 ⟨s0, rfl, s0o, h4⟩
  go_wp2_with fail
  refine HK.out _ _ (h4) ?_
  clear HK K
  refine oneStep (fun K HK => ?_)
  simp only [pick, List.filterMap_cons, List.filterMap_nil, List.getElem?_toArray, List.getElem?_cons_zero, List.getElem?_cons_succ]
  go_wp2_with fail
  refine (l_toPath a2 v2h0 _ (r2h0.ext (((e0.trans h2).trans h3).trans ((Ext.refl _).drew.trans h4))) y2).mono ?_
  rintro e w5 ⟨s2u0, rfl, s2o0, h5⟩
  go_wp2_with fail
  refine HK.out _ _ (h5) ?_
  clear HK K
  refine oneStep (fun K HK => ?_)
  simp only [pick, List.filterMap_cons, List.filterMap_nil, List.getElem?_toArray, List.getElem?_cons_zero, List.getElem?_cons_succ]
  go_wp2_with fail
  refine (s_PathRate a0 s0 a1 a2 s2u0 a3 _ ((OwnF.rd (hf := Resv.flen) s0o).ext h5) ((Part.ord s2o0).ext (Ext.refl _)) y2).mono ?_
  rintro e w6 ⟨rfl, h6⟩
  go_wp2_with fail
  refine HK.out _ _ (h6) ?_
  clear HK K
  refine blkStep (fun K HK => ?_)
  simp only [pick, List.filterMap_cons, List.filterMap_nil, List.getElem?_toArray, List.getElem?_cons_zero, List.getElem?_cons_succ]
  go_wp2_with fail
  refine HK.out _ _ ?_
  clear HK K
  refine doneStep (by kernel_rfl) ?_
  have hc4 := blk1 (Ext.block ((((h2.trans h3).trans ((Ext.refl _).drew.trans h4)).trans h5).trans h6) HB0.out)
  go_wp2_with fail
  refine (l_toReservationS a0 v0 _ (r0.ext (((((e0.trans h2).trans h3).trans ((Ext.refl _).drew.trans h4)).trans h5).trans h6)) y0).mono ?_
  rintro e w7 ⟨x0, rfl, x0o, h7⟩
  have hc5 := blk1 (Ext.block (((((h2.trans h3).trans ((Ext.refl _).drew.trans h4)).trans h5).trans h6).trans h7) HB0.out)
  go_wp2_with fail
  refine (l_toPath a2 v2h0 _ (r2h0.ext ((((((e0.trans h2).trans h3).trans ((Ext.refl _).drew.trans h4)).trans h5).trans h6).trans h7)) y2).mono ?_
  rintro e w8 ⟨x2u0, rfl, x2o0, h8⟩
  obtain ⟨xp20, xc20, rfl, xl20⟩ := (Part.ord x2o0).shape; clear xl20
  have e8 : Ext w8 (w8.alloc (.cells #[(.slice xp20 a2.parts.length xc20)] 47)) := (Ext.refl _).alloc _
  have hB8 := blk_new w8 (.cells #[(.slice xp20 a2.parts.length xc20)] 47)
  have HB8 := Lib.hid hB8; clear hB8
  have hc6 := blk1 (Ext.block (((((((h2.trans h3).trans ((Ext.refl _).drew.trans h4)).trans h5).trans h6).trans h7).trans h8).trans e8) HB0.out)
  go_wp2_with fail
  refine (i_PathRate a0 x0 a1 a2 (.slice xp20 a2.parts.length xc20) a3 _ ((OwnF.rd (hf := Resv.flen) x0o).ext (h8.trans e8)) ((Part.ord x2o0).ext e8) y2).mono ?_
  rintro e w10 ⟨rfl, h10⟩
  have hc8 := blk1 (Ext.block ((((((((h2.trans h3).trans ((Ext.refl _).drew.trans h4)).trans h5).trans h6).trans h7).trans h8).trans e8).trans h10) HB0.out)
  have hc9 := blk1 (Ext.block h10 HB8.out)
  go_wp2_with fail
  refine (l_toReservationS a0 v0 _ (r0.ext (((((((((e0.trans h2).trans h3).trans ((Ext.refl _).drew.trans h4)).trans h5).trans h6).trans h7).trans h8).trans e8).trans h10)) y0).mono ?_
  rintro e w11 ⟨t0, rfl, t0o, h11⟩
  have hc10 := blk1 (Ext.block (((((((((h2.trans h3).trans ((Ext.refl _).drew.trans h4)).trans h5).trans h6).trans h7).trans h8).trans e8).trans h10).trans h11) HB0.out)
  have hc11 := blk1 (Ext.block (h10.trans h11) HB8.out)
  go_wp2_with fail
  refine (l_eqReservationS a0 a0 x0 t0 _ ((OwnF.rd (hf := Resv.flen) x0o).ext (((h8.trans e8).trans h10).trans h11)) ((OwnF.rd (hf := Resv.flen) t0o).ext (Ext.refl _))).mono ?_
  rintro e w12 ⟨rfl, h12⟩
  rw [show decide (a0 = a0) = true from decide_eq_true rfl]
  have hc12 := blk1 (Ext.block ((((((((((h2.trans h3).trans ((Ext.refl _).drew.trans h4)).trans h5).trans h6).trans h7).trans h8).trans e8).trans h10).trans h11).trans h12) HB0.out)
  have hc13 := blk1 (Ext.block ((h10.trans h11).trans h12) HB8.out)
  go_wp2_with fail
  refine planStep (.blk [0, 1] (.one 2 (.one 3 (.blk [4] .done)))) [] (by kernel_rfl) (by kernel_rfl) ?_
  refine blkStep (fun K HK => ?_)
  simp only [pick, List.filterMap_cons, List.filterMap_nil, List.getElem?_toArray, List.getElem?_cons_zero, List.getElem?_cons_succ]
  go_wp2_with fail
  refine HK.out _ _ ?_
  clear HK K
  refine oneStep (fun K HK => ?_)
  simp only [pick, List.filterMap_cons, List.filterMap_nil, List.getElem?_toArray, List.getElem?_cons_zero, List.getElem?_cons_succ]
  go_wp2_with fail
  refine (l_toPath a2 v2h0 _ (r2h0.ext (((((((((((e0.trans h2).trans h3).trans ((Ext.refl _).drew.trans h4)).trans h5).trans h6).trans h7).trans h8).trans e8).trans h10).trans h11).trans h12).drew) y2).mono ?_
  rintro e w13 ⟨t2u0, rfl, t2o0, h13⟩
  go_wp2_with fail
  refine HK.out _ _ (h13) ?_
  clear HK K
  refine oneStep (fun K HK => ?_)
  simp only [pick, List.filterMap_cons, List.filterMap_nil, List.getElem?_toArray, List.getElem?_cons_zero, List.getElem?_cons_succ]
  go_wp2_with fail
  refine (l_eqPath a2 a2 (.slice xp20 a2.parts.length xc20) t2u0 _ ((Part.ord x2o0).ext ((((e8.trans h10).trans h11).trans h12).trans ((Ext.refl _).drew.trans h13))) ((Part.ord t2o0).ext (Ext.refl _))).mono ?_
  rintro e w14 ⟨rfl, h14⟩
  rw [show decide (a2 = a2) = true from decide_eq_true rfl]
  go_wp2_with fail
  refine HK.out _ _ (h14) ?_
  clear HK K
  refine blkStep (fun K HK => ?_)
  simp only [pick, List.filterMap_cons, List.filterMap_nil, List.getElem?_toArray, List.getElem?_cons_zero, List.getElem?_cons_succ]
  go_wp2_with fail
  refine HK.out _ _ ?_
  clear HK K
  refine doneStep (by kernel_rfl) ?_
  go_wp2_with fail
  go_ret
  exact ⟨rfl, (((((((((((((e0.trans h2).trans h3).trans ((Ext.refl _).drew.trans h4)).trans h5).trans h6).trans h7).trans h8).trans e8).trans h10).trans h11).trans h12).trans ((Ext.refl _).drew.trans h13)).trans h14)⟩

set_option maxRecDepth 100000 in
set_option maxHeartbeats 4000000 in
theorem l_FnExactAvailableRate (a0 : List Resv) (v0 : Value) (a1 : Pth) (v1h0 : Value) (a2 : Int) (a3 : Int) (w : World) (r0 : RdS Resv.rep w v0 a0) (_ : ∀ x ∈ a0, Resv.ok x) (r1h0 : RdS Part.rep w v1h0 a1.parts) (_ : a1.ok) (_ : I64 a2) (_ : I64 a3) :
    Calls Try.prog 9 #[v0, .agg #[v1h0], .int .i64 a2, .int .i64 a3] w fun e w' => e = .returned (.bool true) ∧ Ext w w' := by
  go_enter Try.func9, Try.ntmps9
  have e0 : Ext w (w.alloc (.cells #[v1h0] 40)) := (Ext.refl _).alloc _
  have hB0 := blk_new w (.cells #[v1h0] 40)
  have HB0 := Lib.hid hB0; clear hB0
  have hx0 : True := trivial; clear hx0
  go_wp2_with fail
  refine (l_szReservationS a0 _ (1048576) _ (r0.ext e0) (by omega) (by omega)).mono ?_
  rintro e w2 ⟨rfl, h2⟩
  rcases Int.lt_or_le (1048576 - (a0.length : Int)) 0 with z0 | z0
  · rw [show szL (1048576) a0.length = -1 from if_pos z0]
    go_wp2_with fail
    go_ret
    exact ⟨rfl, (e0.trans h2)⟩
  rw [show szL (1048576) a0.length = 1048576 - (a0.length : Int) from if_neg (by omega)]
  have hc2 := blk1 (Ext.block h2 HB0.out)
  go_wp2_with fail
  refine (l_szPath a1 v1h0 (1048576 - (a0.length : Int)) _ (r1h0.ext (e0.trans h2)) (by omega) (by omega)).mono ?_
  rintro e w3 ⟨rfl, h3⟩
  rcases Int.lt_or_le (1048576 - (a0.length : Int) - (a1.size : Int)) 0 with z1 | z1
  · rw [show szL (1048576 - (a0.length : Int)) a1.size = -1 from if_pos z1]
    go_wp2_with fail
    go_ret
    exact ⟨rfl, ((e0.trans h2).trans h3)⟩
  rw [show szL (1048576 - (a0.length : Int)) a1.size = 1048576 - (a0.length : Int) - (a1.size : Int) from if_neg (by omega)]
  have y0 : a0.length ≤ 1048576 := by omega
  have y1 : a1.size ≤ 1048576 := by omega
  have hc3 := blk1 (Ext.block (h2.trans h3) HB0.out)
  go_wp2_with fail
  refine planStep (.blk [0, 2, 4, 5] (.one 1 (.one 3 (.one 6 (.blk [7] .done))))) [] (by kernel_rfl) (by kernel_rfl) ?_
  refine blkStep (fun K HK => ?_)
  simp only [pick, List.filterMap_cons, List.filterMap_nil, List.getElem?_toArray, List.getElem?_cons_zero, List.getElem?_cons_succ]
  go_wp2_with fail
  refine HK.out _ _ ?_
  clear HK K
  refine oneStep (fun K HK => ?_)
  simp only [pick, List.filterMap_cons, List.filterMap_nil, List.getElem?_toArray, List.getElem?_cons_zero, List.getElem?_cons_succ]
  go_wp2_with fail
  refine (l_toReservationS a0 v0 _ (r0.ext ((e0.trans h2).trans h3).drew) y0).mono ?_
  rintro e w4 ⟨s0, rfl, s0o, h4⟩
  go_wp2_with fail
  refine HK.out _ _ (h4) ?_
  clear HK K
  refine oneStep (fun K HK => ?_)
  simp only [pick, List.filterMap_cons, List.filterMap_nil, List.getElem?_toArray, List.getElem?_cons_zero, List.getElem?_cons_succ]
  go_wp2_with fail
  refine (l_toPath a1 v1h0 _ (r1h0.ext (((e0.trans h2).trans h3).trans ((Ext.refl _).drew.trans h4))) y1).mono ?_
  rintro e w5 ⟨s1u0, rfl, s1o0, h5⟩
  go_wp2_with fail
  refine HK.out _ _ (h5) ?_
  clear HK K
  refine oneStep (fun K HK => ?_)
  simp only [pick, List.filterMap_cons, List.filterMap_nil, List.getElem?_toArray, List.getElem?_cons_zero, List.getElem?_cons_succ]
  go_wp2_with fail
  refine (s_AvailableRate a0 s0 a1 s1u0 a2 a3 _ ((OwnF.rd (hf := Resv.flen) s0o).ext h5) ((Part.ord s1o0).ext (Ext.refl _)) y1).mono ?_
  rintro e w6 ⟨rfl, h6⟩
  go_wp2_with fail
  refine HK.out _ _ (h6) ?_
  clear HK K
  refine blkStep (fun K HK => ?_)
  simp only [pick, List.filterMap_cons, List.filterMap_nil, List.getElem?_toArray, List.getElem?_cons_zero, List.getElem?_cons_succ]
  go_wp2_with fail
  refine HK.out _ _ ?_
  clear HK K
  refine doneStep (by kernel_rfl) ?_
  have hc4 := blk1 (Ext.block ((((h2.trans h3).trans ((Ext.refl _).drew.trans h4)).trans h5).trans h6) HB0.out)
  go_wp2_with fail
  refine (l_toReservationS a0 v0 _ (r0.ext (((((e0.trans h2).trans h3).trans ((Ext.refl _).drew.trans h4)).trans h5).trans h6)) y0).mono ?_
  rintro e w7 ⟨x0, rfl, x0o, h7⟩
  have hc5 := blk1 (Ext.block (((((h2.trans h3).trans ((Ext.refl _).drew.trans h4)).trans h5).trans h6).trans h7) HB0.out)
  go_wp2_with fail
  refine (l_toPath a1 v1h0 _ (r1h0.ext ((((((e0.trans h2).trans h3).trans ((Ext.refl _).drew.trans h4)).trans h5).trans h6).trans h7)) y1).mono ?_
  rintro e w8 ⟨x1u0, rfl, x1o0, h8⟩
  obtain ⟨xp10, xc10, rfl, xl10⟩ := (Part.ord x1o0).shape; clear xl10
  have e8 : Ext w8 (w8.alloc (.cells #[(.slice xp10 a1.parts.length xc10)] 47)) := (Ext.refl _).alloc _
  have hB8 := blk_new w8 (.cells #[(.slice xp10 a1.parts.length xc10)] 47)
  have HB8 := Lib.hid hB8; clear hB8
  have hc6 := blk1 (Ext.block (((((((h2.trans h3).trans ((Ext.refl _).drew.trans h4)).trans h5).trans h6).trans h7).trans h8).trans e8) HB0.out)
  go_wp2_with fail
  refine (i_AvailableRate a0 x0 a1 (.slice xp10 a1.parts.length xc10) a2 a3 _ ((OwnF.rd (hf := Resv.flen) x0o).ext (h8.trans e8)) ((Part.ord x1o0).ext e8) y1).mono ?_
  rintro e w10 ⟨rfl, h10⟩
  have hc8 := blk1 (Ext.block ((((((((h2.trans h3).trans ((Ext.refl _).drew.trans h4)).trans h5).trans h6).trans h7).trans h8).trans e8).trans h10) HB0.out)
  have hc9 := blk1 (Ext.block h10 HB8.out)
  go_wp2_with fail
  refine (l_toReservationS a0 v0 _ (r0.ext (((((((((e0.trans h2).trans h3).trans ((Ext.refl _).drew.trans h4)).trans h5).trans h6).trans h7).trans h8).trans e8).trans h10)) y0).mono ?_
  rintro e w11 ⟨t0, rfl, t0o, h11⟩
  have hc10 := blk1 (Ext.block (((((((((h2.trans h3).trans ((Ext.refl _).drew.trans h4)).trans h5).trans h6).trans h7).trans h8).trans e8).trans h10).trans h11) HB0.out)
  have hc11 := blk1 (Ext.block (h10.trans h11) HB8.out)
  go_wp2_with fail
  refine (l_eqReservationS a0 a0 x0 t0 _ ((OwnF.rd (hf := Resv.flen) x0o).ext (((h8.trans e8).trans h10).trans h11)) ((OwnF.rd (hf := Resv.flen) t0o).ext (Ext.refl _))).mono ?_
  rintro e w12 ⟨rfl, h12⟩
  rw [show decide (a0 = a0) = true from decide_eq_true rfl]
  have hc12 := blk1 (Ext.block ((((((((((h2.trans h3).trans ((Ext.refl _).drew.trans h4)).trans h5).trans h6).trans h7).trans h8).trans e8).trans h10).trans h11).trans h12) HB0.out)
  have hc13 := blk1 (Ext.block ((h10.trans h11).trans h12) HB8.out)
  go_wp2_with fail
  refine planStep (.blk [0, 1] (.one 2 (.one 3 (.blk [4] .done)))) [] (by kernel_rfl) (by kernel_rfl) ?_
  refine blkStep (fun K HK => ?_)
  simp only [pick, List.filterMap_cons, List.filterMap_nil, List.getElem?_toArray, List.getElem?_cons_zero, List.getElem?_cons_succ]
  go_wp2_with fail
  refine HK.out _ _ ?_
  clear HK K
  refine oneStep (fun K HK => ?_)
  simp only [pick, List.filterMap_cons, List.filterMap_nil, List.getElem?_toArray, List.getElem?_cons_zero, List.getElem?_cons_succ]
  go_wp2_with fail
  refine (l_toPath a1 v1h0 _ (r1h0.ext (((((((((((e0.trans h2).trans h3).trans ((Ext.refl _).drew.trans h4)).trans h5).trans h6).trans h7).trans h8).trans e8).trans h10).trans h11).trans h12).drew) y1).mono ?_
  rintro e w13 ⟨t1u0, rfl, t1o0, h13⟩
  go_wp2_with fail
  refine HK.out _ _ (h13) ?_
  clear HK K
  refine oneStep (fun K HK => ?_)
  simp only [pick, List.filterMap_cons, List.filterMap_nil, List.getElem?_toArray, List.getElem?_cons_zero, List.getElem?_cons_succ]
  go_wp2_with fail
  refine (l_eqPath a1 a1 (.slice xp10 a1.parts.length xc10) t1u0 _ ((Part.ord x1o0).ext ((((e8.trans h10).trans h11).trans h12).trans ((Ext.refl _).drew.trans h13))) ((Part.ord t1o0).ext (Ext.refl _))).mono ?_
  rintro e w14 ⟨rfl, h14⟩
  rw [show decide (a1 = a1) = true from decide_eq_true rfl]
  go_wp2_with fail
  refine HK.out _ _ (h14) ?_
  clear HK K
  refine blkStep (fun K HK => ?_)
  simp only [pick, List.filterMap_cons, List.filterMap_nil, List.getElem?_toArray, List.getElem?_cons_zero, List.getElem?_cons_succ]
  go_wp2_with fail
  refine HK.out _ _ ?_
  clear HK K
  refine doneStep (by kernel_rfl) ?_
  go_wp2_with fail
  go_ret
  exact ⟨rfl, (((((((((((((e0.trans h2).trans h3).trans ((Ext.refl _).drew.trans h4)).trans h5).trans h6).trans h7).trans h8).trans e8).trans h10).trans h11).trans h12).trans ((Ext.refl _).drew.trans h13)).trans h14)⟩

end Go.Proofs.Ytpeipodehflmaaa
