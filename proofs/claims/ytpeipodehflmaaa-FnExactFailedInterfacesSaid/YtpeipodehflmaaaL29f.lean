/- The walk of the exact law over the failed interfaces. No condition. -/
import Derived.Test.YtpeipodehflmaaaW05t
namespace Go.Proofs.Ytpeipodehflmaaa
open Go.ChangeShapes Go.WideShapes Go.ChangeAt Go.RowKit Go.Deep

set_option maxRecDepth 100000 in
set_option maxHeartbeats 4000000 in
theorem l_FnExactFailedInterfaces (a0 : Topo) (v0h0 : Value) (v0h1 : Value) (a1 : List Int) (v1 : Value) (a2 : Int) (w : World) (r0h0 : RdS ASd.rep w v0h0 a0.ases) (r0h1 : RdS Lnk.rep w v0h1 a0.links) (_ : a0.ok) (r1 : RdS Rep.int w v1 a1) (_ : ∀ x ∈ a1, I64 x) (_ : I64 a2) :
    Calls Try.prog 3 #[.agg #[v0h0, v0h1], v1, .int .i64 a2] w fun e w' => e = .returned (.bool true) ∧ Ext w w' := by
  go_enter Try.func3, Try.ntmps3
  have e0 : Ext w (w.alloc (.cells #[v0h0, v0h1] 25)) := (Ext.refl _).alloc _
  have hB0 := blk_new w (.cells #[v0h0, v0h1] 25)
  have HB0 := Lib.hid hB0; clear hB0
  have hx0 : True := trivial; clear hx0
  obtain ⟨vp1, vc1, rfl, vl1⟩ := r1.shape; clear vl1
  by_cases z1 : 1048576 < a1.length
  · have zz : (1048576 : Int) < (a1.length : Int) := by omega
    go_wp2_with fail
    go_ret
    exact ⟨rfl, e0⟩
  have zz1 : ¬ (1048576 : Int) < (a1.length : Int) := by omega
  go_wp2_with fail
  refine (l_szTopology a0 v0h0 v0h1 (1048576) _ (r0h0.ext e0) (r0h1.ext e0) (by omega) (by omega)).mono ?_
  rintro e w2 ⟨rfl, h2⟩
  rcases Int.lt_or_le (1048576 - (a0.size : Int)) 0 with z0 | z0
  · rw [show szL (1048576) a0.size = -1 from if_pos z0]
    go_wp2_with fail
    go_ret
    exact ⟨rfl, (e0.trans h2)⟩
  rw [show szL (1048576) a0.size = 1048576 - (a0.size : Int) from if_neg (by omega)]
  have y0 : a0.size ≤ 1048576 := by omega
  have y1 : a1.length ≤ 1048576 := by omega
  have hc2 := blk2 (Ext.block h2 HB0.out)
  go_wp2_with fail
  refine (l_toTopology a0 v0h0 v0h1 _ (r0h0.ext (e0.trans h2)) (r0h1.ext (e0.trans h2)) y0).mono ?_
  rintro e w3 ⟨s0u0, s0u1, rfl, s0o0, s0o1, h3⟩
  have hc3 := blk2 (Ext.block (h2.trans h3) HB0.out)
  go_wp2_with fail
  refine (l_toIntS a1 _ _ (r1.ext ((e0.trans h2).trans h3)) y1).mono ?_
  rintro e w4 ⟨s1, rfl, s1o, h4⟩
  have hc4 := blk2 (Ext.block ((h2.trans h3).trans h4) HB0.out)
  go_wp2_with fail
  refine (s_FailedInterfaces a0 s0u0 s0u1 a1 s1 a2 _ ((OwnF.rd (hf := ASd.flen) s0o0).ext h4) ((OwnF.rd (hf := Lnk.flen) s0o1).ext h4) ((OwnF.rd (hf := intFlen) s1o).ext (Ext.refl _)) y0).mono ?_
  rintro e w5 ⟨rfl, h5⟩
  have hc5 := blk2 (Ext.block (((h2.trans h3).trans h4).trans h5) HB0.out)
  go_wp2_with fail
  refine (l_toTopology a0 v0h0 v0h1 _ (r0h0.ext ((((e0.trans h2).trans h3).trans h4).trans h5)) (r0h1.ext ((((e0.trans h2).trans h3).trans h4).trans h5)) y0).mono ?_
  rintro e w6 ⟨x0u0, x0u1, rfl, x0o0, x0o1, h6⟩
  obtain ⟨xp00, xc00, rfl, xl00⟩ := (OwnF.rd (hf := ASd.flen) x0o0).shape; clear xl00
  obtain ⟨xp01, xc01, rfl, xl01⟩ := (OwnF.rd (hf := Lnk.flen) x0o1).shape; clear xl01
  have e6 : Ext w6 (w6.alloc (.cells #[(.slice xp00 a0.ases.length xc00), (.slice xp01 a0.links.length xc01)] 32)) := (Ext.refl _).alloc _
  have hB6 := blk_new w6 (.cells #[(.slice xp00 a0.ases.length xc00), (.slice xp01 a0.links.length xc01)] 32)
  have HB6 := Lib.hid hB6; clear hB6
  have hc6 := blk2 (Ext.block (((((h2.trans h3).trans h4).trans h5).trans h6).trans e6) HB0.out)
  go_wp2_with fail
  refine (l_toIntS a1 _ _ (r1.ext ((((((e0.trans h2).trans h3).trans h4).trans h5).trans h6).trans e6)) y1).mono ?_
  rintro e w8 ⟨x1, rfl, x1o, h8⟩
  have hc8 := blk2 (Ext.block ((((((h2.trans h3).trans h4).trans h5).trans h6).trans e6).trans h8) HB0.out)
  have hc9 := blk2 (Ext.block h8 HB6.out)
  go_wp2_with fail
  refine (i_FailedInterfaces a0 (.slice xp00 a0.ases.length xc00) (.slice xp01 a0.links.length xc01) a1 x1 a2 _ ((OwnF.rd (hf := ASd.flen) x0o0).ext (e6.trans h8)) ((OwnF.rd (hf := Lnk.flen) x0o1).ext (e6.trans h8)) ((OwnF.rd (hf := intFlen) x1o).ext (Ext.refl _)) y0).mono ?_
  rintro e w9 ⟨rfl, h9⟩
  have hc10 := blk2 (Ext.block (((((((h2.trans h3).trans h4).trans h5).trans h6).trans e6).trans h8).trans h9) HB0.out)
  have hc11 := blk2 (Ext.block (h8.trans h9) HB6.out)
  go_wp2_with fail
  refine planStep (.blk [0, 1] (.one 2 (.one 3 (.blk [4] .done)))) [] (by kernel_rfl) (by kernel_rfl) ?_
  refine blkStep (fun K HK => ?_)
  simp only [pick, List.filterMap_cons, List.filterMap_nil, List.getElem?_toArray, List.getElem?_cons_zero, List.getElem?_cons_succ]
  go_wp2_with fail
  refine HK.out _ _ ?_
  clear HK K
  refine oneStep (fun K HK => ?_)
  simp only [pick, List.filterMap_cons, List.filterMap_nil, List.getElem?_toArray, List.getElem?_cons_zero, List.getElem?_cons_succ]
  go_wp2_with fail
  refine (l_toTopology a0 v0h0 v0h1 _ (r0h0.ext ((((((((e0.trans h2).trans h3).trans h4).trans h5).trans h6).trans e6).trans h8).trans h9).drew) (r0h1.ext ((((((((e0.trans h2).trans h3).trans h4).trans h5).trans h6).trans e6).trans h8).trans h9).drew) y0).mono ?_
  rintro e w10 ⟨t0u0, t0u1, rfl, t0o0, t0o1, h10⟩
  go_wp2_with fail
  refine HK.out _ _ (h10) ?_
  clear HK K
  refine oneStep (fun K HK => ?_)
  simp only [pick, List.filterMap_cons, List.filterMap_nil, List.getElem?_toArray, List.getElem?_cons_zero, List.getElem?_cons_succ]
  go_wp2_with fail
  refine (l_eqTopology a0 a0 (.slice xp00 a0.ases.length xc00) (.slice xp01 a0.links.length xc01) t0u0 t0u1 _ ((OwnF.rd (hf := ASd.flen) x0o0).ext (((e6.trans h8).trans h9).trans ((Ext.refl _).drew.trans h10))) ((OwnF.rd (hf := Lnk.flen) x0o1).ext (((e6.trans h8).trans h9).trans ((Ext.refl _).drew.trans h10))) ((OwnF.rd (hf := ASd.flen) t0o0).ext (Ext.refl _)) ((OwnF.rd (hf := Lnk.flen) t0o1).ext (Ext.refl _))).mono ?_
  rintro e w11 ⟨rfl, h11⟩
  rw [show decide (a0 = a0) = true from decide_eq_true rfl]
  go_wp2_with fail
  refine HK.out _ _ (h11) ?_
  clear HK K
  refine blkStep (fun K HK => ?_)
  simp only [pick, List.filterMap_cons, List.filterMap_nil, List.getElem?_toArray, List.getElem?_cons_zero, List.getElem?_cons_succ]
  go_wp2_with fail
  refine HK.out _ _ ?_
  clear HK K
  refine doneStep (by kernel_rfl) ?_
  have hc12 := blk2 (Ext.block (((((((((h2.trans h3).trans h4).trans h5).trans h6).trans e6).trans h8).trans h9).trans ((Ext.refl _).drew.trans h10)).trans h11) HB0.out)
  have hc13 := blk2 (Ext.block (((h8.trans h9).trans ((Ext.refl _).drew.trans h10)).trans h11) HB6.out)
  go_wp2_with fail
  refine (l_toIntS a1 _ _ (r1.ext ((((((((((e0.trans h2).trans h3).trans h4).trans h5).trans h6).trans e6).trans h8).trans h9).trans ((Ext.refl _).drew.trans h10)).trans h11)) y1).mono ?_
  rintro e w12 ⟨t1, rfl, t1o, h12⟩
  have hc14 := blk2 (Ext.block ((((((((((h2.trans h3).trans h4).trans h5).trans h6).trans e6).trans h8).trans h9).trans ((Ext.refl _).drew.trans h10)).trans h11).trans h12) HB0.out)
  have hc15 := blk2 (Ext.block ((((h8.trans h9).trans ((Ext.refl _).drew.trans h10)).trans h11).trans h12) HB6.out)
  go_wp2_with fail
  refine (l_eqIntS a1 a1 x1 t1 _ ((OwnF.rd (hf := intFlen) x1o).ext (((h9.trans ((Ext.refl _).drew.trans h10)).trans h11).trans h12)) ((OwnF.rd (hf := intFlen) t1o).ext (Ext.refl _))).mono ?_
  rintro e w13 ⟨rfl, h13⟩
  rw [show decide (a1 = a1) = true from decide_eq_true rfl]
  go_wp2_with fail
  go_ret
  exact ⟨rfl, ((((((((((((e0.trans h2).trans h3).trans h4).trans h5).trans h6).trans e6).trans h8).trans h9).trans ((Ext.refl _).drew.trans h10)).trans h11).trans h12).trans h13)⟩

end Go.Proofs.Ytpeipodehflmaaa
