/- The walks of the exact laws over the counts of a scheduler. No condition. -/
import Derived.Test.YtjcojpnfoblpgaaW39
import Derived.Test.YtjcojpnfoblpgaaSeq
namespace Go.Proofs.Ytjcojpnfoblpgaa
open Go.ChangeShapes Go.WideShapes Go.ChangeAt Go.RowKit Go.Deep

set_option maxRecDepth 100000 in
set_option maxHeartbeats 4000000 in
theorem l_FnExactSentCount (a0 : Schd) (v0h0 : Value) (v0h1 : Value) (a1 : Int) (a2 : Int) (w : World) (r0h0 : RdS Resv.rep w v0h0 a0.rs) (r0h1 : RdS Usg.rep w v0h1 a0.us) (_ : a0.ok) (_ : I64 a1) (_ : I64 a2) :
    Calls Try.prog 9 #[.agg #[.int .i64 a0.cap, v0h0, v0h1], .int .i64 a1, .int .i64 a2] w fun e w' => e = .returned (.bool true) ∧ Ext w w' := by
  go_enter Try.func9, Try.ntmps9
  have e0 : Ext w (w.alloc (.cells #[.int .i64 a0.cap, v0h0, v0h1] 62)) := (Ext.refl _).alloc _
  have hB0 := blk_new w (.cells #[.int .i64 a0.cap, v0h0, v0h1] 62)
  have HB0 := Lib.hid hB0; clear hB0
  have hx0 : True := trivial; clear hx0
  go_wp2_with fail
  refine (l_szScheduler a0 v0h0 v0h1 (1048576) _ (r0h0.ext e0) (r0h1.ext e0) (by omega) (by omega)).mono ?_
  rintro e w2 ⟨rfl, h2⟩
  rcases Int.lt_or_le (1048576 - (a0.size : Int)) 0 with z0 | z0
  · rw [show szL (1048576) a0.size = -1 from if_pos z0]
    go_wp2_with fail
    go_ret
    exact ⟨rfl, (e0.trans h2)⟩
  rw [show szL (1048576) a0.size = 1048576 - (a0.size : Int) from if_neg (by omega)]
  have y0 : a0.size ≤ 1048576 := by omega
  have hc2 := blk3 (Ext.block h2 HB0.out)
  go_wp2_with fail
  refine (l_toScheduler a0 v0h0 v0h1 _ (r0h0.ext (e0.trans h2)) (r0h1.ext (e0.trans h2)) y0).mono ?_
  rintro e w3 ⟨s0u0, s0u1, rfl, s0o0, s0o1, h3⟩
  have hc3 := blk3 (Ext.block (h2.trans h3) HB0.out)
  go_wp2_with fail
  refine (s_SentCount a0 s0u0 s0u1 a1 a2 _ ((OwnF.rd (hf := Resv.flen) s0o0).ext (Ext.refl _)) ((OwnF.rd (hf := Usg.flen) s0o1).ext (Ext.refl _)) ).mono ?_
  rintro e w4 ⟨rfl, h4⟩
  have hc4 := blk3 (Ext.block ((h2.trans h3).trans h4) HB0.out)
  go_wp2_with fail
  refine (l_toScheduler a0 v0h0 v0h1 _ (r0h0.ext (((e0.trans h2).trans h3).trans h4)) (r0h1.ext (((e0.trans h2).trans h3).trans h4)) y0).mono ?_
  rintro e w5 ⟨x0u0, x0u1, rfl, x0o0, x0o1, h5⟩
  obtain ⟨xp00, xc00, rfl, xl00⟩ := (OwnF.rd (hf := Resv.flen) x0o0).shape; clear xl00
  obtain ⟨xp01, xc01, rfl, xl01⟩ := (OwnF.rd (hf := Usg.flen) x0o1).shape; clear xl01
  have e5 : Ext w5 (w5.alloc (.cells #[.int .i64 a0.cap, (.slice xp00 a0.rs.length xc00), (.slice xp01 a0.us.length xc01)] 67)) := (Ext.refl _).alloc _
  have hB5 := blk_new w5 (.cells #[.int .i64 a0.cap, (.slice xp00 a0.rs.length xc00), (.slice xp01 a0.us.length xc01)] 67)
  have HB5 := Lib.hid hB5; clear hB5
  have hc5 := blk3 (Ext.block ((((h2.trans h3).trans h4).trans h5).trans e5) HB0.out)
  go_wp2_with fail
  refine (i_SentCount a0 (.slice xp00 a0.rs.length xc00) (.slice xp01 a0.us.length xc01) a1 a2 _ ((OwnF.rd (hf := Resv.flen) x0o0).ext e5) ((OwnF.rd (hf := Usg.flen) x0o1).ext e5) ).mono ?_
  rintro e w7 ⟨rfl, h7⟩
  have hc7 := blk3 (Ext.block (((((h2.trans h3).trans h4).trans h5).trans e5).trans h7) HB0.out)
  have hc8 := blk3 (Ext.block h7 HB5.out)
  go_wp2_with fail
  refine planStep (.blk [0, 1] (.one 2 (.one 3 (.blk [4] .done)))) [] (by kernel_rfl) (by kernel_rfl) ?_
  refine blkStep (fun K HK => ?_)
  simp only [pick, List.filterMap_cons, List.filterMap_nil, List.getElem?_toArray, List.getElem?_cons_zero, List.getElem?_cons_succ]
  go_wp2_with fail
  refine HK.out _ _ ?_
  clear HK K
  refine oneStep (fun K HK => ?_)
  simp only [pick, List.filterMap_cons, List.filterMap_nil, List.getElem?_toArray, List.getElem?_cons_zero, List.getElem?_cons_succ]
  go_wp2_with fail
  refine (l_toScheduler a0 v0h0 v0h1 _ (r0h0.ext ((((((e0.trans h2).trans h3).trans h4).trans h5).trans e5).trans h7).drew) (r0h1.ext ((((((e0.trans h2).trans h3).trans h4).trans h5).trans e5).trans h7).drew) y0).mono ?_
  rintro e w8 ⟨t0u0, t0u1, rfl, t0o0, t0o1, h8⟩
  go_wp2_with fail
  refine HK.out _ _ (h8) ?_
  clear HK K
  refine oneStep (fun K HK => ?_)
  simp only [pick, List.filterMap_cons, List.filterMap_nil, List.getElem?_toArray, List.getElem?_cons_zero, List.getElem?_cons_succ]
  go_wp2_with fail
  refine (l_eqScheduler a0 a0 (.slice xp00 a0.rs.length xc00) (.slice xp01 a0.us.length xc01) t0u0 t0u1 _ ((OwnF.rd (hf := Resv.flen) x0o0).ext ((e5.trans h7).trans ((Ext.refl _).drew.trans h8))) ((OwnF.rd (hf := Usg.flen) x0o1).ext ((e5.trans h7).trans ((Ext.refl _).drew.trans h8))) ((OwnF.rd (hf := Resv.flen) t0o0).ext (Ext.refl _)) ((OwnF.rd (hf := Usg.flen) t0o1).ext (Ext.refl _))).mono ?_
  rintro e w9 ⟨rfl, h9⟩
  rw [show decide (a0 = a0) = true from decide_eq_true rfl]
  go_wp2_with fail
  refine HK.out _ _ (h9) ?_
  clear HK K
  refine blkStep (fun K HK => ?_)
  simp only [pick, List.filterMap_cons, List.filterMap_nil, List.getElem?_toArray, List.getElem?_cons_zero, List.getElem?_cons_succ]
  go_wp2_with fail
  refine HK.out _ _ ?_
  clear HK K
  refine doneStep (by kernel_rfl) ?_
  go_wp2_with fail
  go_ret
  exact ⟨rfl, ((((((((e0.trans h2).trans h3).trans h4).trans h5).trans e5).trans h7).trans ((Ext.refl _).drew.trans h8)).trans h9)⟩

set_option maxRecDepth 100000 in
set_option maxHeartbeats 4000000 in
theorem l_FnExactUsedCount (a0 : Schd) (v0h0 : Value) (v0h1 : Value) (a1 : Int) (a2 : Int) (a3 : Int) (w : World) (r0h0 : RdS Resv.rep w v0h0 a0.rs) (r0h1 : RdS Usg.rep w v0h1 a0.us) (_ : a0.ok) (_ : I64 a1) (_ : I64 a2) (_ : I64 a3) :
    Calls Try.prog 11 #[.agg #[.int .i64 a0.cap, v0h0, v0h1], .int .i64 a1, .int .i64 a2, .int .i64 a3] w fun e w' => e = .returned (.bool true) ∧ Ext w w' := by
  go_enter Try.func11, Try.ntmps11
  have e0 : Ext w (w.alloc (.cells #[.int .i64 a0.cap, v0h0, v0h1] 62)) := (Ext.refl _).alloc _
  have hB0 := blk_new w (.cells #[.int .i64 a0.cap, v0h0, v0h1] 62)
  have HB0 := Lib.hid hB0; clear hB0
  have hx0 : True := trivial; clear hx0
  go_wp2_with fail
  refine (l_szScheduler a0 v0h0 v0h1 (1048576) _ (r0h0.ext e0) (r0h1.ext e0) (by omega) (by omega)).mono ?_
  rintro e w2 ⟨rfl, h2⟩
  rcases Int.lt_or_le (1048576 - (a0.size : Int)) 0 with z0 | z0
  · rw [show szL (1048576) a0.size = -1 from if_pos z0]
    go_wp2_with fail
    go_ret
    exact ⟨rfl, (e0.trans h2)⟩
  rw [show szL (1048576) a0.size = 1048576 - (a0.size : Int) from if_neg (by omega)]
  have y0 : a0.size ≤ 1048576 := by omega
  have hc2 := blk3 (Ext.block h2 HB0.out)
  go_wp2_with fail
  refine (l_toScheduler a0 v0h0 v0h1 _ (r0h0.ext (e0.trans h2)) (r0h1.ext (e0.trans h2)) y0).mono ?_
  rintro e w3 ⟨s0u0, s0u1, rfl, s0o0, s0o1, h3⟩
  have hc3 := blk3 (Ext.block (h2.trans h3) HB0.out)
  go_wp2_with fail
  refine (s_UsedCount a0 s0u0 s0u1 a1 a2 a3 _ ((OwnF.rd (hf := Resv.flen) s0o0).ext (Ext.refl _)) ((OwnF.rd (hf := Usg.flen) s0o1).ext (Ext.refl _)) ).mono ?_
  rintro e w4 ⟨rfl, h4⟩
  have hc4 := blk3 (Ext.block ((h2.trans h3).trans h4) HB0.out)
  go_wp2_with fail
  refine (l_toScheduler a0 v0h0 v0h1 _ (r0h0.ext (((e0.trans h2).trans h3).trans h4)) (r0h1.ext (((e0.trans h2).trans h3).trans h4)) y0).mono ?_
  rintro e w5 ⟨x0u0, x0u1, rfl, x0o0, x0o1, h5⟩
  obtain ⟨xp00, xc00, rfl, xl00⟩ := (OwnF.rd (hf := Resv.flen) x0o0).shape; clear xl00
  obtain ⟨xp01, xc01, rfl, xl01⟩ := (OwnF.rd (hf := Usg.flen) x0o1).shape; clear xl01
  have e5 : Ext w5 (w5.alloc (.cells #[.int .i64 a0.cap, (.slice xp00 a0.rs.length xc00), (.slice xp01 a0.us.length xc01)] 67)) := (Ext.refl _).alloc _
  have hB5 := blk_new w5 (.cells #[.int .i64 a0.cap, (.slice xp00 a0.rs.length xc00), (.slice xp01 a0.us.length xc01)] 67)
  have HB5 := Lib.hid hB5; clear hB5
  have hc5 := blk3 (Ext.block ((((h2.trans h3).trans h4).trans h5).trans e5) HB0.out)
  go_wp2_with fail
  refine (i_UsedCount a0 (.slice xp00 a0.rs.length xc00) (.slice xp01 a0.us.length xc01) a1 a2 a3 _ ((OwnF.rd (hf := Resv.flen) x0o0).ext e5) ((OwnF.rd (hf := Usg.flen) x0o1).ext e5) ).mono ?_
  rintro e w7 ⟨rfl, h7⟩
  have hc7 := blk3 (Ext.block (((((h2.trans h3).trans h4).trans h5).trans e5).trans h7) HB0.out)
  have hc8 := blk3 (Ext.block h7 HB5.out)
  go_wp2_with fail
  refine planStep (.blk [0, 1] (.one 2 (.one 3 (.blk [4] .done)))) [] (by kernel_rfl) (by kernel_rfl) ?_
  refine blkStep (fun K HK => ?_)
  simp only [pick, List.filterMap_cons, List.filterMap_nil, List.getElem?_toArray, List.getElem?_cons_zero, List.getElem?_cons_succ]
  go_wp2_with fail
  refine HK.out _ _ ?_
  clear HK K
  refine oneStep (fun K HK => ?_)
  simp only [pick, List.filterMap_cons, List.filterMap_nil, List.getElem?_toArray, List.getElem?_cons_zero, List.getElem?_cons_succ]
  go_wp2_with fail
  refine (l_toScheduler a0 v0h0 v0h1 _ (r0h0.ext ((((((e0.trans h2).trans h3).trans h4).trans h5).trans e5).trans h7).drew) (r0h1.ext ((((((e0.trans h2).trans h3).trans h4).trans h5).trans e5).trans h7).drew) y0).mono ?_
  rintro e w8 ⟨t0u0, t0u1, rfl, t0o0, t0o1, h8⟩
  go_wp2_with fail
  refine HK.out _ _ (h8) ?_
  clear HK K
  refine oneStep (fun K HK => ?_)
  simp only [pick, List.filterMap_cons, List.filterMap_nil, List.getElem?_toArray, List.getElem?_cons_zero, List.getElem?_cons_succ]
  go_wp2_with fail
  refine (l_eqScheduler a0 a0 (.slice xp00 a0.rs.length xc00) (.slice xp01 a0.us.length xc01) t0u0 t0u1 _ ((OwnF.rd (hf := Resv.flen) x0o0).ext ((e5.trans h7).trans ((Ext.refl _).drew.trans h8))) ((OwnF.rd (hf := Usg.flen) x0o1).ext ((e5.trans h7).trans ((Ext.refl _).drew.trans h8))) ((OwnF.rd (hf := Resv.flen) t0o0).ext (Ext.refl _)) ((OwnF.rd (hf := Usg.flen) t0o1).ext (Ext.refl _))).mono ?_
  rintro e w9 ⟨rfl, h9⟩
  rw [show decide (a0 = a0) = true from decide_eq_true rfl]
  go_wp2_with fail
  refine HK.out _ _ (h9) ?_
  clear HK K
  refine blkStep (fun K HK => ?_)
  simp only [pick, List.filterMap_cons, List.filterMap_nil, List.getElem?_toArray, List.getElem?_cons_zero, List.getElem?_cons_succ]
  go_wp2_with fail
  refine HK.out _ _ ?_
  clear HK K
  refine doneStep (by kernel_rfl) ?_
  go_wp2_with fail
  go_ret
  exact ⟨rfl, ((((((((e0.trans h2).trans h3).trans h4).trans h5).trans e5).trans h7).trans ((Ext.refl _).drew.trans h8)).trans h9)⟩

end Go.Proofs.Ytjcojpnfoblpgaa
