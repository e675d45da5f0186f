/- The walk of the exact law over the text of a trace. No condition. -/
import Derived.Test.YtcpfmhgfaliemaaKNxW06t
import Derived.Test.YtcpfmhgfaliemaaKN10
namespace Go.Proofs.Ytcpfmhgfaliemaa
open Go.ChangeShapes Go.WideShapes Go.ChangeAt Go.RowKit Go.Deep

theorem i_FormatTraceX (a : Topo) (v1 v2 : Value) (x : Trc) (v0 u0 u1 : Value) (w : World) (ha : RdS ASd.rep w v1 a.ases) (_ : RdS Lnk.rep w v2 a.links) (r : RdS Step.rep w v0 x.steps) (_ : RdS Part.rep w u0 x.pkt.path.parts) (_ : RdS Rep.byte w u1 x.pkt.pay) (hl : x.size ≤ 1048576) (h0 : Topo.ok a) (h1 : Trc.ok x) :
  Calls Try.prog 10 #[.agg #[v1, v2], .agg #[.int .i64 x.code, v0, .int .i64 x.pkt.kind, .int .i64 x.pkt.src, .int .i64 x.pkt.dst, u0, .int .i64 x.pkt.pi, .int .i64 x.pkt.hi, .int .i64 x.pkt.beta, .int .i64 x.pkt.rid, .int .i64 x.pkt.seq, u1]] w fun e w' => e = .returned (.string (strOfNums (traceB a x))) ∧ Ext w w' :=
 i_FormatTrace a v1 v2 x v0 u0 u1 w ha r (fun y hy => (h0.1 y hy).1) (fun y hy => h1.2.1 y hy) (by unfold Trc.size at hl; omega)

theorem s_FormatTraceX (a : Topo) (v1 v2 : Value) (x : Trc) (v0 u0 u1 : Value) (w : World) (ha : RdS ASd.rep w v1 a.ases) (_ : RdS Lnk.rep w v2 a.links) (r : RdS Step.rep w v0 x.steps) (_ : RdS Part.rep w u0 x.pkt.path.parts) (_ : RdS Rep.byte w u1 x.pkt.pay) (hl : x.size ≤ 1048576) (h0 : Topo.ok a) (h1 : Trc.ok x) :
  Calls Try.prog 7 #[.agg #[v1, v2], .agg #[.int .i64 x.code, v0, .int .i64 x.pkt.kind, .int .i64 x.pkt.src, .int .i64 x.pkt.dst, u0, .int .i64 x.pkt.pi, .int .i64 x.pkt.hi, .int .i64 x.pkt.beta, .int .i64 x.pkt.rid, .int .i64 x.pkt.seq, u1]] w fun e w' => e = .returned (.string (strOfNums (traceB a x))) ∧ Ext w w' :=
 s_FormatTrace a v1 v2 x v0 u0 u1 w ha r (fun y hy => (h0.1 y hy).1) (fun y hy => h1.2.1 y hy) (by unfold Trc.size at hl; omega)
set_option maxRecDepth 100000 in
set_option maxHeartbeats 4000000 in
theorem l_FnExactFormatTrace (a0 : Topo) (v0h0 : Value) (v0h1 : Value) (a1 : Trc) (v1h0 : Value) (v1h1 : Value) (v1h2 : Value) (w : World) (r0h0 : RdS ASd.rep w v0h0 a0.ases) (r0h1 : RdS Lnk.rep w v0h1 a0.links) (_ : a0.ok) (r1h0 : RdS Step.rep w v1h0 a1.steps) (r1h1 : RdS Part.rep w v1h1 a1.pkt.path.parts) (r1h2 : RdS Rep.byte w v1h2 a1.pkt.pay) (_ : a1.ok) :
  Calls Try.prog 3 #[.agg #[v0h0, v0h1], .agg #[.int .i64 a1.code, v1h0, .int .i64 a1.pkt.kind, .int .i64 a1.pkt.src, .int .i64 a1.pkt.dst, v1h1, .int .i64 a1.pkt.pi, .int .i64 a1.pkt.hi, .int .i64 a1.pkt.beta, .int .i64 a1.pkt.rid, .int .i64 a1.pkt.seq, v1h2]] w fun e w' => e = .returned (.bool true) ∧ Ext w w' := by
 go_enter Try.func3, Try.ntmps3
 have e0 : Ext w (w.alloc (.cells #[v0h0, v0h1] 25)) := (Ext.refl _).alloc _
 have hB0 := blk_new w (.cells #[v0h0, v0h1] 25)
 have HB0 := Lib.hid hB0; clear hB0
 have e1 : Ext (w.alloc (.cells #[v0h0, v0h1] 25)) ((w.alloc (.cells #[v0h0, v0h1] 25)).alloc (.cells #[.int .i64 a1.code, v1h0, .int .i64 a1.pkt.kind, .int .i64 a1.pkt.src, .int .i64 a1.pkt.dst, v1h1, .int .i64 a1.pkt.pi, .int .i64 a1.pkt.hi, .int .i64 a1.pkt.beta, .int .i64 a1.pkt.rid, .int .i64 a1.pkt.seq, v1h2] 34)) := (Ext.refl _).alloc _
 have hB1 := blk_new (w.alloc (.cells #[v0h0, v0h1] 25)) (.cells #[.int .i64 a1.code, v1h0, .int .i64 a1.pkt.kind, .int .i64 a1.pkt.src, .int .i64 a1.pkt.dst, v1h1, .int .i64 a1.pkt.pi, .int .i64 a1.pkt.hi, .int .i64 a1.pkt.beta, .int .i64 a1.pkt.rid, .int .i64 a1.pkt.seq, v1h2] 34)
 simp only [nblk_alloc] at hB1
 have HB1 := Lib.hid hB1; clear hB1
 have hx0 : True := trivial; clear hx0
 have hc1 := blk2 (Ext.block e1 HB0.out)
 go_wp2_with fail
 refine (l_szTopology a0 v0h0 v0h1 (1048576) _ (r0h0.ext (e0.trans e1)) (r0h1.ext (e0.trans e1)) (by omega) (by omega)).mono ?_
 rintro e w3 ⟨rfl, h3⟩
 rcases Int.lt_or_le (1048576 - (a0.size : Int)) 0 with z0 | z0
 ·
  rw [show szL (1048576) a0.size = -1 from if_pos z0]
  go_wp2_with fail
  go_ret
  exact ⟨rfl, ((e0.trans e1).trans h3)⟩
 rw [show szL (1048576) a0.size = 1048576 - (a0.size : Int) from if_neg (by omega)]
 have hc3 := blk2 (Ext.block (e1.trans h3) HB0.out)
 have hc4 := blk12 (Ext.block h3 HB1.out)
 go_wp2_with fail
 refine (l_szTrace a1 v1h0 v1h1 v1h2 (1048576 - (a0.size : Int)) _ (r1h0.ext ((e0.trans e1).trans h3)) (r1h1.ext ((e0.trans e1).trans h3)) (r1h2.ext ((e0.trans e1).trans h3)) (by omega) (by omega)).mono ?_
 rintro e w4 ⟨rfl, h4⟩
 rcases Int.lt_or_le (1048576 - (a0.size : Int) - (a1.size : Int)) 0 with z1 | z1
 ·
  rw [show szL (1048576 - (a0.size : Int)) a1.size = -1 from if_pos z1]
  go_wp2_with fail
  go_ret
  exact ⟨rfl, (((e0.trans e1).trans h3).trans h4)⟩
 rw [show szL (1048576 - (a0.size : Int)) a1.size = 1048576 - (a0.size : Int) - (a1.size : Int) from if_neg (by omega)]
 have y0 : a0.size ≤ 1048576 := by omega
 have y1 : a1.size ≤ 1048576 := by omega
 have hc5 := blk2 (Ext.block ((e1.trans h3).trans h4) HB0.out)
 have hc6 := blk12 (Ext.block (h3.trans h4) HB1.out)
 go_wp2_with fail
 refine planStep (.blk [0, 2] (.one 1 (.one 3 (.one 4 (.blk [5] .done))))) [] (by kernel_rfl) (by kernel_rfl) ?_
 refine blkStep (fun K HK => ?_)
 simp only [PK]
 go_wp2_with fail
 refine HK.out _ _ ?_
 clear HK K
 refine oneStep (fun K HK => ?_)
 simp only [PK]
 go_wp2_with fail
 refine (l_toTopology a0 v0h0 v0h1 _ (r0h0.ext (((e0.trans e1).trans h3).trans h4).drew) (r0h1.ext (((e0.trans e1).trans h3).trans h4).drew) y0).mono ?_
 rintro e w5 ⟨s0u0, s0u1, rfl, s0o0, s0o1, h5⟩
 go_wp2_with fail
 refine HK.out _ _ (h5) ?_
 clear HK K
 refine oneStep (fun K HK => ?_)
 simp only [PK]
 go_wp2_with fail
 refine (l_toTrace a1 v1h0 v1h1 v1h2 _ (r1h0.ext ((((e0.trans e1).trans h3).trans h4).trans ((Ext.refl _).drew.trans h5))) (r1h1.ext ((((e0.trans e1).trans h3).trans h4).trans ((Ext.refl _).drew.trans h5))) (r1h2.ext ((((e0.trans e1).trans h3).trans h4).trans ((Ext.refl _).drew.trans h5))) y1).mono ?_
 rintro e w6 ⟨s1u0, s1u1, s1u2, rfl, s1o0, h6⟩
 go_wp2_with fail
 refine HK.out _ _ (h6) ?_
 clear HK K
 refine oneStep (fun K HK => ?_)
 simp only [PK]
 go_wp2_with fail
 refine (s_FormatTraceX a0 s0u0 s0u1 a1 s1u0 s1u1 s1u2 _ ((OwnF.rd (hf := ASd.flen) s0o0).ext h6) ((OwnF.rd (hf := Lnk.flen) s0o1).ext h6) ((Trc.own_rd0 s1o0).ext (Ext.refl _)) ((Trc.own_rd1 s1o0).ext (Ext.refl _)) ((Trc.own_rd2 s1o0).ext (Ext.refl _)) y1 ‹Topo.ok a0› ‹Trc.ok a1›).mono ?_
 rintro e w7 ⟨rfl, h7⟩
 go_wp2_with fail
 refine HK.out _ _ (h7) ?_
 clear HK K
 refine blkStep (fun K HK => ?_)
 simp only [PK]
 go_wp2_with fail
 refine HK.out _ _ ?_
 clear HK K
 refine doneStep (by kernel_rfl) ?_
 have hc7 := blk2 (Ext.block (((((e1.trans h3).trans h4).trans ((Ext.refl _).drew.trans h5)).trans h6).trans h7) HB0.out)
 have hc8 := blk12 (Ext.block ((((h3.trans h4).trans ((Ext.refl _).drew.trans h5)).trans h6).trans h7) HB1.out)
 go_wp2_with fail
 refine (l_toTopology a0 v0h0 v0h1 _ (r0h0.ext ((((((e0.trans e1).trans h3).trans h4).trans ((Ext.refl _).drew.trans h5)).trans h6).trans h7)) (r0h1.ext ((((((e0.trans e1).trans h3).trans h4).trans ((Ext.refl _).drew.trans h5)).trans h6).trans h7)) y0).mono ?_
 rintro e w8 ⟨x0u0, x0u1, rfl, x0o0, x0o1, h8⟩
 obtain ⟨xp00, xc00, rfl, xl00⟩ := (OwnF.rd (hf := ASd.flen) x0o0).shape; clear xl00
 obtain ⟨xp01, xc01, rfl, xl01⟩ := (OwnF.rd (hf := Lnk.flen) x0o1).shape; clear xl01
 have e8 : Ext w8 (w8.alloc (.cells #[(.slice xp00 a0.ases.length xc00), (.slice xp01 a0.links.length xc01)] 41)) := (Ext.refl _).alloc _
 have hB8 := blk_new w8 (.cells #[(.slice xp00 a0.ases.length xc00), (.slice xp01 a0.links.length xc01)] 41)
 have HB8 := Lib.hid hB8; clear hB8
 have hc9 := blk2 (Ext.block (((((((e1.trans h3).trans h4).trans ((Ext.refl _).drew.trans h5)).trans h6).trans h7).trans h8).trans e8) HB0.out)
 have hc10 := blk12 (Ext.block ((((((h3.trans h4).trans ((Ext.refl _).drew.trans h5)).trans h6).trans h7).trans h8).trans e8) HB1.out)
 go_wp2_with fail
 refine (l_toTrace a1 v1h0 v1h1 v1h2 _ (r1h0.ext ((((((((e0.trans e1).trans h3).trans h4).trans ((Ext.refl _).drew.trans h5)).trans h6).trans h7).trans h8).trans e8)) (r1h1.ext ((((((((e0.trans e1).trans h3).trans h4).trans ((Ext.refl _).drew.trans h5)).trans h6).trans h7).trans h8).trans e8)) (r1h2.ext ((((((((e0.trans e1).trans h3).trans h4).trans ((Ext.refl _).drew.trans h5)).trans h6).trans h7).trans h8).trans e8)) y1).mono ?_
 rintro e w10 ⟨x1u0, x1u1, x1u2, rfl, x1o0, h10⟩
 obtain ⟨xp10, xc10, rfl, xl10⟩ := (Trc.own_rd0 x1o0).shape; clear xl10
 obtain ⟨xp11, xc11, rfl, xl11⟩ := (Trc.own_rd1 x1o0).shape; clear xl11
 obtain ⟨xp12, xc12, rfl, xl12⟩ := (Trc.own_rd2 x1o0).shape; clear xl12
 have e10 : Ext w10 (w10.alloc (.cells #[.int .i64 a1.code, (.slice xp10 a1.steps.length xc10), .int .i64 a1.pkt.kind, .int .i64 a1.pkt.src, .int .i64 a1.pkt.dst, (.slice xp11 a1.pkt.path.parts.length xc11), .int .i64 a1.pkt.pi, .int .i64 a1.pkt.hi, .int .i64 a1.pkt.beta, .int .i64 a1.pkt.rid, .int .i64 a1.pkt.seq, (.slice xp12 a1.pkt.pay.length xc12)] 50)) := (Ext.refl _).alloc _
 have hB10 := blk_new w10 (.cells #[.int .i64 a1.code, (.slice xp10 a1.steps.length xc10), .int .i64 a1.pkt.kind, .int .i64 a1.pkt.src, .int .i64 a1.pkt.dst, (.slice xp11 a1.pkt.path.parts.length xc11), .int .i64 a1.pkt.pi, .int .i64 a1.pkt.hi, .int .i64 a1.pkt.beta, .int .i64 a1.pkt.rid, .int .i64 a1.pkt.seq, (.slice xp12 a1.pkt.pay.length xc12)] 50)
 have HB10 := Lib.hid hB10; clear hB10
 have hc12 := blk2 (Ext.block (((((((((e1.trans h3).trans h4).trans ((Ext.refl _).drew.trans h5)).trans h6).trans h7).trans h8).trans e8).trans h10).trans e10) HB0.out)
 have hc13 := blk12 (Ext.block ((((((((h3.trans h4).trans ((Ext.refl _).drew.trans h5)).trans h6).trans h7).trans h8).trans e8).trans h10).trans e10) HB1.out)
 have hc14 := blk2 (Ext.block (h10.trans e10) HB8.out)
 go_wp2_with fail
 refine (i_FormatTraceX a0 (.slice xp00 a0.ases.length xc00) (.slice xp01 a0.links.length xc01) a1 (.slice xp10 a1.steps.length xc10) (.slice xp11 a1.pkt.path.parts.length xc11) (.slice xp12 a1.pkt.pay.length xc12) _ ((OwnF.rd (hf := ASd.flen) x0o0).ext ((e8.trans h10).trans e10)) ((OwnF.rd (hf := Lnk.flen) x0o1).ext ((e8.trans h10).trans e10)) ((Trc.own_rd0 x1o0).ext e10) ((Trc.own_rd1 x1o0).ext e10) ((Trc.own_rd2 x1o0).ext e10) y1 ‹Topo.ok a0› ‹Trc.ok a1›).mono ?_
 rintro e w12 ⟨rfl, h12⟩
 have hc16 := blk2 (Ext.block ((((((((((e1.trans h3).trans h4).trans ((Ext.refl _).drew.trans h5)).trans h6).trans h7).trans h8).trans e8).trans h10).trans e10).trans h12) HB0.out)
 have hc17 := blk12 (Ext.block (((((((((h3.trans h4).trans ((Ext.refl _).drew.trans h5)).trans h6).trans h7).trans h8).trans e8).trans h10).trans e10).trans h12) HB1.out)
 have hc18 := blk2 (Ext.block ((h10.trans e10).trans h12) HB8.out)
 have hc19 := blk12 (Ext.block h12 HB10.out)
 go_wp2_with fail
 refine planStep (.blk [0, 1] (.one 2 (.one 3 (.blk [4] .done)))) [] (by kernel_rfl) (by kernel_rfl) ?_
 refine blkStep (fun K HK => ?_)
 simp only [PK]
 go_wp2_with fail
 refine HK.out _ _ ?_
 clear HK K
 refine oneStep (fun K HK => ?_)
 simp only [PK]
 go_wp2_with fail
 refine (l_toTopology a0 v0h0 v0h1 _ (r0h0.ext (((((((((((e0.trans e1).trans h3).trans h4).trans ((Ext.refl _).drew.trans h5)).trans h6).trans h7).trans h8).trans e8).trans h10).trans e10).trans h12).drew) (r0h1.ext (((((((((((e0.trans e1).trans h3).trans h4).trans ((Ext.refl _).drew.trans h5)).trans h6).trans h7).trans h8).trans e8).trans h10).trans e10).trans h12).drew) y0).mono ?_
 rintro e w13 ⟨t0u0, t0u1, rfl, t0o0, t0o1, h13⟩
 go_wp2_with fail
 refine HK.out _ _ (h13) ?_
 clear HK K
 refine oneStep (fun K HK => ?_)
 simp only [PK]
 go_wp2_with fail
 refine (l_eqTopology a0 a0 (.slice xp00 a0.ases.length xc00) (.slice xp01 a0.links.length xc01) t0u0 t0u1 _ ((OwnF.rd (hf := ASd.flen) x0o0).ext ((((e8.trans h10).trans e10).trans h12).trans ((Ext.refl _).drew.trans h13))) ((OwnF.rd (hf := Lnk.flen) x0o1).ext ((((e8.trans h10).trans e10).trans h12).trans ((Ext.refl _).drew.trans h13))) ((OwnF.rd (hf := ASd.flen) t0o0).ext (Ext.refl _)) ((OwnF.rd (hf := Lnk.flen) t0o1).ext (Ext.refl _))).mono ?_
 rintro e w14 ⟨rfl, h14⟩
 rw [show decide (a0 = a0) = true from decide_eq_true rfl]
 go_wp2_with fail
 refine HK.out _ _ (h14) ?_
 clear HK K
 refine blkStep (fun K HK => ?_)
 simp only [PK]
 go_wp2_with fail
 refine HK.out _ _ ?_
 clear HK K
 refine doneStep (by kernel_rfl) ?_
 have hc20 := blk2 (Ext.block ((((((((((((e1.trans h3).trans h4).trans ((Ext.refl _).drew.trans h5)).trans h6).trans h7).trans h8).trans e8).trans h10).trans e10).trans h12).trans ((Ext.refl _).drew.trans h13)).trans h14) HB0.out)
 have hc21 := blk12 (Ext.block (((((((((((h3.trans h4).trans ((Ext.refl _).drew.trans h5)).trans h6).trans h7).trans h8).trans e8).trans h10).trans e10).trans h12).trans ((Ext.refl _).drew.trans h13)).trans h14) HB1.out)
 have hc22 := blk2 (Ext.block ((((h10.trans e10).trans h12).trans ((Ext.refl _).drew.trans h13)).trans h14) HB8.out)
 have hc23 := blk12 (Ext.block ((h12.trans ((Ext.refl _).drew.trans h13)).trans h14) HB10.out)
 go_wp2_with fail
 refine planStep (.blk [0, 1] (.one 2 (.one 3 (.blk [4] .done)))) [] (by kernel_rfl) (by kernel_rfl) ?_
 refine blkStep (fun K HK => ?_)
 simp only [PK]
 go_wp2_with fail
 refine HK.out _ _ ?_
 clear HK K
 refine oneStep (fun K HK => ?_)
 simp only [PK]
 go_wp2_with fail
 refine (l_toTrace a1 v1h0 v1h1 v1h2 _ (r1h0.ext (((((((((((((e0.trans e1).trans h3).trans h4).trans ((Ext.refl _).drew.trans h5)).trans h6).trans h7).trans h8).trans e8).trans h10).trans e10).trans h12).trans ((Ext.refl _).drew.trans h13)).trans h14).drew) (r1h1.ext (((((((((((((e0.trans e1).trans h3).trans h4).trans ((Ext.refl _).drew.trans h5)).trans h6).trans h7).trans h8).trans e8).trans h10).trans e10).trans h12).trans ((Ext.refl _).drew.trans h13)).trans h14).drew) (r1h2.ext (((((((((((((e0.trans e1).trans h3).trans h4).trans ((Ext.refl _).drew.trans h5)).trans h6).trans h7).trans h8).trans e8).trans h10).trans e10).trans h12).trans ((Ext.refl _).drew.trans h13)).trans h14).drew) y1).mono ?_
 rintro e w15 ⟨t1u0, t1u1, t1u2, rfl, t1o0, h15⟩
 go_wp2_with fail
 refine HK.out _ _ (h15) ?_
 clear HK K
 refine oneStep (fun K HK => ?_)
 simp only [PK]
 go_wp2_with fail
 refine (l_eqTrace a1 a1 (.slice xp10 a1.steps.length xc10) (.slice xp11 a1.pkt.path.parts.length xc11) (.slice xp12 a1.pkt.pay.length xc12) t1u0 t1u1 t1u2 _ ((Trc.own_rd0 x1o0).ext ((((e10.trans h12).trans ((Ext.refl _).drew.trans h13)).trans h14).trans ((Ext.refl _).drew.trans h15))) ((Trc.own_rd1 x1o0).ext ((((e10.trans h12).trans ((Ext.refl _).drew.trans h13)).trans h14).trans ((Ext.refl _).drew.trans h15))) ((Trc.own_rd2 x1o0).ext ((((e10.trans h12).trans ((Ext.refl _).drew.trans h13)).trans h14).trans ((Ext.refl _).drew.trans h15))) ((Trc.own_rd0 t1o0).ext (Ext.refl _)) ((Trc.own_rd1 t1o0).ext (Ext.refl _)) ((Trc.own_rd2 t1o0).ext (Ext.refl _))).mono ?_
 rintro e w16 ⟨rfl, h16⟩
 rw [show decide (a1 = a1) = true from decide_eq_true rfl]
 go_wp2_with fail
 refine HK.out _ _ (h16) ?_
 clear HK K
 refine blkStep (fun K HK => ?_)
 simp only [PK]
 go_wp2_with fail
 refine HK.out _ _ ?_
 clear HK K
 refine doneStep (by kernel_rfl) ?_
 go_wp2_with fail
 go_ret
 exact ⟨rfl, (((((((((((((((e0.trans e1).trans h3).trans h4).trans ((Ext.refl _).drew.trans h5)).trans h6).trans h7).trans h8).trans e8).trans h10).trans e10).trans h12).trans ((Ext.refl _).drew.trans h13)).trans h14).trans ((Ext.refl _).drew.trans h15)).trans h16)⟩

end Go.Proofs.Ytcpfmhgfaliemaa
