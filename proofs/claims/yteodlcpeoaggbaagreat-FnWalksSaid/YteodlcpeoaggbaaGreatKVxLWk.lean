/- The walk of the law on traversals: program and reference walk alike, and a usable path that every AS permits is walked to its end. No condition. -/
import Derived.Test.YteodlcpeoaggbaaGreatKVxW29s
import Derived.Test.YteodlcpeoaggbaaGreatKV25
import Derived.Test.YteodlcpeoaggbaaGreatKV27
import Derived.Test.YteodlcpeoaggbaaGreatKV42
import Derived.Test.YteodlcpeoaggbaaGreatKV43
import Derived.Test.YteodlcpeoaggbaaGreatKV44
import Derived.Test.YteodlcpeoaggbaaGreatKV45
namespace Go.Proofs.YteodlcpeoaggbaaGreat
section
open Go.ChangeShapes Go.WideShapes Go.ChangeAt Go.RowKit Go.Deep
set_option maxRecDepth 100000 in
set_option maxHeartbeats 60000000 in
theorem l_FnWalks (code:List Int) (cv:Value) (w:World) (hr:RdS Rep.byte w cv code) (hu:∀ x∈code,U8 x) :
  Calls Tryz.prog 3 #[cv] w fun e w'=>e=.returned (.bool true)∧Ext w w':=by
 obtain⟨co,cc,rfl,_⟩:=hr.shape
 by_cases hbig:1048576<code.length
 ·
  have hb1:decide (1048576<code.length)=true:=by simpa using hbig
  have HB1:=Ac hb1;clear hb1
  go_enter Tryz.func3,Tryz.ntmps3
  go_wp2_with fail
  refine(l_big code _ _ hr).mono ?_;rintro e _ ⟨rfl,rfl⟩;rw [HB1.out]
  go_wp2_with fail
  go_ret
  exact⟨rfl,Ab _⟩
 have hb1:decide (1048576<code.length)=false:=by simpa using hbig
 have hl:code.length≤1048576:=by omega
 have HB1:=Ac hb1;clear hb1 hbig
 go_enter Tryz.func3,Tryz.ntmps3
 go_wp2_with fail
 refine(l_big code _ _ hr).mono ?_;rintro e _ ⟨rfl,rfl⟩;rw [HB1.out]
 go_wp2_with fail
 refine(s_DrawPath code _ _ (hr.ext (Ab _)) hu hl).mono ?_;rintro e w1 ⟨v1,v2,vp,t,p,rfl,TK,PDr,rA,rL,rP,hz1⟩;obtain⟨o_A,c_A,rfl,_⟩:=rA.shape;obtain⟨o_L,c_L,rfl,_⟩:=rL.shape;obtain⟨o_P,c_P,rfl,_⟩:=rP.shape;have hps:=PDr.size;have hts:t.size≤1048576:=by have h1:=TK.n8;have h2:=TK.few;unfold Topo.size;omega
 obtain⟨hx1,HB1⟩:=ea2 w1 (.cells #[.slice o_A t.ases.length c_A,.slice o_L t.links.length c_L] 27) (.cells #[.slice o_P p.parts.length c_P] 30);replace HB1:=Ac HB1;have cf1:=blk2 HB1.out.1;have cf2:=blk1 HB1.out.2
 go_wp2_with fail
 refine(s_DrawTraverse code _ _ (hr.ext (hz1.t hx1)) hu hl).mono ?_;rintro e w2 ⟨v1,v2,vd,u0,u1,u,now,dead,x,rfl,TKu,hxb,hdl,RB,RM,RD,R0,R1,hz2⟩;have rB:=Own.rd _ RB;clear RB;have rM:=Own.rd _ RM;clear RM;have rD:=Own.rd _ RD;clear RD;have r0:=Own.rd _ R0;clear R0;have r1:=Own.rd _ R1;clear R1;obtain⟨o_B,c_B,rfl,_⟩:=rB.shape;obtain⟨o_M,c_M,rfl,_⟩:=rM.shape;obtain⟨o_D,c_D,rfl,_⟩:=rD.shape;obtain⟨o_0,c_0,rfl,_⟩:=r0.shape;obtain⟨o_1,c_1,rfl,_⟩:=r1.shape;have hxs:=hxb.size;have hus:u.size≤1048576:=by have h1:=TKu.n8;have h2:=TKu.few;unfold Topo.size;omega
 obtain⟨hx2,HB2⟩:=ea2 w2 (.cells #[.slice o_B u.ases.length c_B,.slice o_M u.links.length c_M] 27) (.cells #[.int .i64 x.kind,.int .i64 x.src,.int .i64 x.dst,.slice o_0 x.path.parts.length c_0,.int .i64 x.pi,.int .i64 x.hi,.int .i64 x.beta,.int .i64 x.rid,.int .i64 x.seq,.slice o_1 x.pay.length c_1] 35);replace HB2:=Ac HB2
 try clear cf1
 try clear cf2
 have cf3:=blk2 (Aa (hz2.t hx2) HB1.out.1);have cf4:=blk1 (Aa (hz2.t hx2) HB1.out.2);have cf5:=blk2 HB2.out.1;have cf6:=blk10 HB2.out.2
 go_wp2_with fail
 refine(i_Traverse u _ _ now dead _ x _ _ _ (rB.ext hx2) (rM.ext hx2) (rD.ext hx2) (r0.ext hx2) (r1.ext hx2) hus (by omega)).mono ?_;rintro e w3 ⟨y0,y1,y2,rfl,OT,hz3⟩
 obtain⟨z,hz⟩:∃ z,z=traverse u now dead x:=⟨_,rfl⟩
 rw [← hz] at OT ⊢
 have hzs:z.size≤1048576:=by rw [hz];have h1:=traverse_size u now dead x;omega
 have hzl:z.pkt.path.parts.length≤1048576:=by unfold Trc.size Pkt.size Pth.size at hzs;omega
 have HZ:=Ac hz;clear hz;have rS:=Trc.own_rd0 OT;have rQ:=Trc.own_rd1 OT;have rY:=Trc.own_rd2 OT;clear OT;obtain⟨o_S,c_S,rfl,_⟩:=rS.shape;obtain⟨o_Q,c_Q,rfl,_⟩:=rQ.shape;obtain⟨o_Y,c_Y,rfl,_⟩:=rY.shape;obtain⟨hx3,HB3⟩:=ea1 w3 (.cells #[.int .i64 z.code,.slice o_S z.steps.length c_S,.int .i64 z.pkt.kind,.int .i64 z.pkt.src,.int .i64 z.pkt.dst,.slice o_Q z.pkt.path.parts.length c_Q,.int .i64 z.pkt.pi,.int .i64 z.pkt.hi,.int .i64 z.pkt.beta,.int .i64 z.pkt.rid,.int .i64 z.pkt.seq,.slice o_Y z.pkt.pay.length c_Y] 40);replace HB3:=Ac HB3
 try clear cf3
 try clear cf4
 try clear cf5
 try clear cf6
 have cf7:=blk2 (Aa (((hz2.t hx2).t hz3).t hx3) HB1.out.1);have cf8:=blk1 (Aa (((hz2.t hx2).t hz3).t hx3) HB1.out.2);have cf9:=blk2 (Aa (hz3.t hx3) HB2.out.1);have cf10:=blk10 (Aa (hz3.t hx3) HB2.out.2);have cf11:=blk12 HB3.out
 go_wp2_with fail
 refine(s_DrawFailedInterfaces code _ _ (hr.ext (((((hz1.t hx1).t hz2).t hx2).t hz3).t hx3)) hu hl).mono ?_;rintro e w4 ⟨v1,v2,ve,d,de,r,rfl,hds,rC,rN,rE,hz4⟩;obtain⟨o_C,c_C,rfl,_⟩:=rC.shape;obtain⟨o_N,c_N,rfl,_⟩:=rN.shape;obtain⟨o_E,c_E,rfl,_⟩:=rE.shape;obtain⟨hx4,HB4⟩:=ea1 w4 (.cells #[.slice o_C d.ases.length c_C,.slice o_N d.links.length c_N] 27);replace HB4:=Ac HB4
 try clear cf7
 try clear cf8
 try clear cf9
 try clear cf10
 try clear cf11
 have cf12:=blk2 (Aa (((((hz2.t hx2).t hz3).t hx3).t hz4).t hx4) HB1.out.1);have cf13:=blk1 (Aa (((((hz2.t hx2).t hz3).t hx3).t hz4).t hx4) HB1.out.2);have cf14:=blk2 (Aa (((hz3.t hx3).t hz4).t hx4) HB2.out.1);have cf15:=blk10 (Aa (((hz3.t hx3).t hz4).t hx4) HB2.out.2);have cf16:=blk12 (Aa (hz4.t hx4) HB3.out);have cf17:=blk2 HB4.out
 go_wp2_with fail
 refine(s_DrawFormatTrace code _ _ (hr.ext (((((((hz1.t hx1).t hz2).t hx2).t hz3).t hx3).t hz4).t hx4)) hu hl).mono ?_;rintro e w5 ⟨v1,v2,u0,u1,u2,v,y,rfl,TKv,hys,rF,rO,rT,rU,rV,hz5⟩;obtain⟨o_F,c_F,rfl,_⟩:=rF.shape;obtain⟨o_O,c_O,rfl,_⟩:=rO.shape;obtain⟨o_T,c_T,rfl,_⟩:=rT.shape;obtain⟨o_U,c_U,rfl,_⟩:=rU.shape;obtain⟨o_V,c_V,rfl,_⟩:=rV.shape;have hyl:y.steps.length≤1048576:=by unfold Trc.size at hys;omega
 obtain⟨hx5,HB5⟩:=ea2 w5 (.cells #[.slice o_F v.ases.length c_F,.slice o_O v.links.length c_O] 27) (.cells #[.int .i64 y.code,.slice o_T y.steps.length c_T,.int .i64 y.pkt.kind,.int .i64 y.pkt.src,.int .i64 y.pkt.dst,.slice o_U y.pkt.path.parts.length c_U,.int .i64 y.pkt.pi,.int .i64 y.pkt.hi,.int .i64 y.pkt.beta,.int .i64 y.pkt.rid,.int .i64 y.pkt.seq,.slice o_V y.pkt.pay.length c_V] 40);replace HB5:=Ac HB5
 try clear cf12
 try clear cf13
 try clear cf14
 try clear cf15
 try clear cf16
 try clear cf17
 have cf18:=blk2 (Aa (((((((hz2.t hx2).t hz3).t hx3).t hz4).t hx4).t hz5).t hx5) HB1.out.1);have cf19:=blk1 (Aa (((((((hz2.t hx2).t hz3).t hx3).t hz4).t hx4).t hz5).t hx5) HB1.out.2);have cf20:=blk2 (Aa (((((hz3.t hx3).t hz4).t hx4).t hz5).t hx5) HB2.out.1);have cf21:=blk10 (Aa (((((hz3.t hx3).t hz4).t hx4).t hz5).t hx5) HB2.out.2);have cf22:=blk12 (Aa (((hz4.t hx4).t hz5).t hx5) HB3.out);have cf23:=blk2 (Aa (hz5.t hx5) HB4.out);have cf24:=blk2 HB5.out.1;have cf25:=blk12 HB5.out.2
 go_wp2_with fail
 refine(s_DrawEqualSteps code _ _ (hr.ext (((((((((hz1.t hx1).t hz2).t hx2).t hz3).t hx3).t hz4).t hx4).t hz5).t hx5)) hu hl).mono ?_;rintro e w6 ⟨va,vb,a,b,rfl,rG,rH,hz6⟩;obtain⟨o_G,c_G,rfl,_⟩:=rG.shape;obtain⟨o_H,c_H,rfl,_⟩:=rH.shape
 obtain⟨fi,hfi⟩:∃ c,c=failedIfs d de r:=⟨_,rfl⟩
 obtain⟨st,hst⟩:∃ c,c=strOfNums (traceB v y):=⟨_,rfl⟩
 obtain⟨eb,heb⟩:∃ c,c=decide (a=b):=⟨_,rfl⟩
 have HFI:=Ac hfi;have HST:=Ac hst;have HEB:=Ac heb;clear hfi hst heb;have hne1:(fi != fi)=false:=by simp
 have hne2:(st.toList != st.toList)=false:=by simp
 have hne4:(st.toList == st.toList)=true:=by simp
 have hne3:(eb != eb)=false:=by simp
 try clear cf18
 try clear cf19
 try clear cf20
 try clear cf21
 try clear cf22
 try clear cf23
 try clear cf24
 try clear cf25
 have cf26:=blk2 (Aa ((((((((hz2.t hx2).t hz3).t hx3).t hz4).t hx4).t hz5).t hx5).t hz6) HB1.out.1);have cf27:=blk1 (Aa ((((((((hz2.t hx2).t hz3).t hx3).t hz4).t hx4).t hz5).t hx5).t hz6) HB1.out.2);have cf28:=blk2 (Aa ((((((hz3.t hx3).t hz4).t hx4).t hz5).t hx5).t hz6) HB2.out.1);have cf29:=blk10 (Aa ((((((hz3.t hx3).t hz4).t hx4).t hz5).t hx5).t hz6) HB2.out.2);have cf30:=blk12 (Aa ((((hz4.t hx4).t hz5).t hx5).t hz6) HB3.out);have cf31:=blk2 (Aa ((hz5.t hx5).t hz6) HB4.out);have cf32:=blk2 (Aa hz6 HB5.out.1);have cf33:=blk12 (Aa hz6 HB5.out.2);have HC1_1:=Ac (Aa ((((((((hz2.t hx2).t hz3).t hx3).t hz4).t hx4).t hz5).t hx5).t hz6) HB1.out.1);have HC1_2:=Ac (Aa ((((((((hz2.t hx2).t hz3).t hx3).t hz4).t hx4).t hz5).t hx5).t hz6) HB1.out.2);have HC1_3:=Ac (Aa ((((((hz3.t hx3).t hz4).t hx4).t hz5).t hx5).t hz6) HB2.out.1);have HC1_4:=Ac (Aa ((((((hz3.t hx3).t hz4).t hx4).t hz5).t hx5).t hz6) HB2.out.2);have HC1_5:=Ac (Aa ((((hz4.t hx4).t hz5).t hx5).t hz6) HB3.out);have HC1_6:=Ac (Aa ((hz5.t hx5).t hz6) HB4.out);have HC1_7:=Ac (Aa hz6 HB5.out.1);have HC1_8:=Ac (Aa hz6 HB5.out.2);replace rA:=rA.ext (((((((((hx1.t hz2).t hx2).t hz3).t hx3).t hz4).t hx4).t hz5).t hx5).t hz6);replace rL:=rL.ext (((((((((hx1.t hz2).t hx2).t hz3).t hx3).t hz4).t hx4).t hz5).t hx5).t hz6)
 replace rP:=rP.ext (((((((((hx1.t hz2).t hx2).t hz3).t hx3).t hz4).t hx4).t hz5).t hx5).t hz6);replace rB:=rB.ext (((((((hx2.t hz3).t hx3).t hz4).t hx4).t hz5).t hx5).t hz6);replace rM:=rM.ext (((((((hx2.t hz3).t hx3).t hz4).t hx4).t hz5).t hx5).t hz6);replace rD:=rD.ext (((((((hx2.t hz3).t hx3).t hz4).t hx4).t hz5).t hx5).t hz6);replace r0:=r0.ext (((((((hx2.t hz3).t hx3).t hz4).t hx4).t hz5).t hx5).t hz6);replace r1:=r1.ext (((((((hx2.t hz3).t hx3).t hz4).t hx4).t hz5).t hx5).t hz6);replace rS:=rS.ext (((((hx3.t hz4).t hx4).t hz5).t hx5).t hz6);replace rQ:=rQ.ext (((((hx3.t hz4).t hx4).t hz5).t hx5).t hz6);replace rY:=rY.ext (((((hx3.t hz4).t hx4).t hz5).t hx5).t hz6);replace rC:=rC.ext (((hx4.t hz5).t hx5).t hz6);replace rN:=rN.ext (((hx4.t hz5).t hx5).t hz6);replace rE:=rE.ext (((hx4.t hz5).t hx5).t hz6);replace rF:=rF.ext (hx5.t hz6);replace rO:=rO.ext (hx5.t hz6);replace rT:=rT.ext (hx5.t hz6);replace rU:=rU.ext (hx5.t hz6);replace rV:=rV.ext (hx5.t hz6)
 have hq1:=((((((((((hz1.t hx1).t hz2).t hx2).t hz3).t hx3).t hz4).t hx4).t hz5).t hx5).t hz6)
 go_wp2_with fail
 refine Ax (.blk [0,1,2,3,4] (.one 5 (.one 6 (.blk [7,8,9,10,11,13,14,15] (.one 12 (.one 16 (.blk [17,18,19,20,21,23,24] (.one 22 (.one 25 (.blk [26,27,28,29,31] (.one 30 (.one 32 (.one 33 (.blk [34,35,36,37,38,40,41] (.one 39 (.one 42 (.blk [43,44] .done))))))))))))))))) [] (by kernel_rfl) (by kernel_rfl) ?_
 try clear cf26
 try clear cf27
 try clear cf28
 try clear cf29
 try clear cf30
 try clear cf31
 try clear cf32
 try clear cf33
 have cf34:=blk2 (Aa ((Ab _).drew) HC1_1.out);have cf35:=blk1 (Aa ((Ab _).drew) HC1_2.out);have cf36:=blk2 (Aa ((Ab _).drew) HC1_3.out);have cf37:=blk10 (Aa ((Ab _).drew) HC1_4.out);have cf38:=blk12 (Aa ((Ab _).drew) HC1_5.out);have cf39:=blk2 (Aa ((Ab _).drew) HC1_6.out);have cf40:=blk2 (Aa ((Ab _).drew) HC1_7.out);have cf41:=blk12 (Aa ((Ab _).drew) HC1_8.out);refine blkStep (fun K HK=>?_);simp only [PK]
 go_wp2_with fail
 refine HK.out _ _ ?_;clear HK K;refine oneStep (fun K HK=>?_);simp only [PK]
 go_wp2_with fail
 refine(s_Traverse u _ _ now dead _ x _ _ _ (rB.ext ((Ab _).drew)) (rM.ext ((Ab _).drew)) (rD.ext ((Ab _).drew)) (r0.ext ((Ab _).drew)) (r1.ext ((Ab _).drew)) hus (by omega)).mono ?_;rintro e w7 ⟨t0,t1,t2,rfl,OT,hz7⟩;rw [← HZ.out] at OT ⊢
 have rs0:=Trc.own_rd0 OT;have rs1:=Trc.own_rd1 OT;have rs2:=Trc.own_rd2 OT;clear OT;obtain⟨os0,cs0,rfl,_⟩:=rs0.shape;obtain⟨os1,cs1,rfl,_⟩:=rs1.shape;obtain⟨os2,cs2,rfl,_⟩:=rs2.shape
 try clear cf34
 try clear cf35
 try clear cf36
 try clear cf37
 try clear cf38
 try clear cf39
 try clear cf40
 try clear cf41
 have cf42:=blk2 (Aa (((Ab _).drew).t hz7) HC1_1.out);have cf43:=blk1 (Aa (((Ab _).drew).t hz7) HC1_2.out);have cf44:=blk2 (Aa (((Ab _).drew).t hz7) HC1_3.out);have cf45:=blk10 (Aa (((Ab _).drew).t hz7) HC1_4.out);have cf46:=blk12 (Aa (((Ab _).drew).t hz7) HC1_5.out);have cf47:=blk2 (Aa (((Ab _).drew).t hz7) HC1_6.out);have cf48:=blk2 (Aa (((Ab _).drew).t hz7) HC1_7.out);have cf49:=blk12 (Aa (((Ab _).drew).t hz7) HC1_8.out)
 go_wp2_with fail
 refine HK.out _ _ hz7 ?_;clear HK K;refine oneStep (fun K HK=>?_);simp only [PK]
 go_wp2_with fail
 refine(l_sameTraceT z _ _ _ _ _ _ _ (rS.ext (((Ab _).drew).t hz7)) (rQ.ext (((Ab _).drew).t hz7)) (rY.ext (((Ab _).drew).t hz7)) (rs0.ext (Ab _)) (rs1.ext (Ab _)) (rs2.ext (Ab _)) hzl).mono ?_;rintro e w8 ⟨rfl,hz8⟩
 try clear cf42
 try clear cf43
 try clear cf44
 try clear cf45
 try clear cf46
 try clear cf47
 try clear cf48
 try clear cf49
 have cf50:=blk2 (Aa ((((Ab _).drew).t hz7).t hz8) HC1_1.out);have cf51:=blk1 (Aa ((((Ab _).drew).t hz7).t hz8) HC1_2.out);have cf52:=blk2 (Aa ((((Ab _).drew).t hz7).t hz8) HC1_3.out);have cf53:=blk10 (Aa ((((Ab _).drew).t hz7).t hz8) HC1_4.out);have cf54:=blk12 (Aa ((((Ab _).drew).t hz7).t hz8) HC1_5.out);have cf55:=blk2 (Aa ((((Ab _).drew).t hz7).t hz8) HC1_6.out);have cf56:=blk2 (Aa ((((Ab _).drew).t hz7).t hz8) HC1_7.out);have cf57:=blk12 (Aa ((((Ab _).drew).t hz7).t hz8) HC1_8.out)
 go_wp2_with fail
 refine HK.out _ _ hz8 ?_;clear HK K;have HC2_1:=Ac (Aa ((((Ab _).drew).t hz7).t hz8) HC1_1.out);have HC2_2:=Ac (Aa ((((Ab _).drew).t hz7).t hz8) HC1_2.out);have HC2_3:=Ac (Aa ((((Ab _).drew).t hz7).t hz8) HC1_3.out);have HC2_4:=Ac (Aa ((((Ab _).drew).t hz7).t hz8) HC1_4.out);have HC2_5:=Ac (Aa ((((Ab _).drew).t hz7).t hz8) HC1_5.out);have HC2_6:=Ac (Aa ((((Ab _).drew).t hz7).t hz8) HC1_6.out);have HC2_7:=Ac (Aa ((((Ab _).drew).t hz7).t hz8) HC1_7.out);have HC2_8:=Ac (Aa ((((Ab _).drew).t hz7).t hz8) HC1_8.out);replace rA:=rA.ext ((((Ab _).drew).t hz7).t hz8);replace rL:=rL.ext ((((Ab _).drew).t hz7).t hz8);replace rP:=rP.ext ((((Ab _).drew).t hz7).t hz8);replace rB:=rB.ext ((((Ab _).drew).t hz7).t hz8);replace rM:=rM.ext ((((Ab _).drew).t hz7).t hz8);replace rD:=rD.ext ((((Ab _).drew).t hz7).t hz8);replace r0:=r0.ext ((((Ab _).drew).t hz7).t hz8);replace r1:=r1.ext ((((Ab _).drew).t hz7).t hz8);replace rS:=rS.ext ((((Ab _).drew).t hz7).t hz8);replace rQ:=rQ.ext ((((Ab _).drew).t hz7).t hz8);replace rY:=rY.ext ((((Ab _).drew).t hz7).t hz8);replace rC:=rC.ext ((((Ab _).drew).t hz7).t hz8);replace rN:=rN.ext ((((Ab _).drew).t hz7).t hz8);replace rE:=rE.ext ((((Ab _).drew).t hz7).t hz8)
 replace rF:=rF.ext ((((Ab _).drew).t hz7).t hz8);replace rO:=rO.ext ((((Ab _).drew).t hz7).t hz8);replace rT:=rT.ext ((((Ab _).drew).t hz7).t hz8);replace rU:=rU.ext ((((Ab _).drew).t hz7).t hz8);replace rV:=rV.ext ((((Ab _).drew).t hz7).t hz8);replace rG:=rG.ext ((((Ab _).drew).t hz7).t hz8);replace rH:=rH.ext ((((Ab _).drew).t hz7).t hz8)
 have hq2:=(((hq1.trans ((Ab _).drew)).trans hz7).trans hz8)
 refine blkStep (fun K HK=>?_);simp only [PK]
 go_wp2_with fail
 refine HK.out _ _ ?_;clear HK K;refine oneStep (fun K HK=>?_);simp only [PK]
 go_wp2_with fail
 refine(i_FailedInterfaces d _ _ de _ r _ (rC.ext (Ab _)) (rN.ext (Ab _)) (rE.ext (Ab _)) hds).mono ?_;rintro e w9 ⟨rfl,hz9⟩;rw [← HFI.out]
 try clear cf50
 try clear cf51
 try clear cf52
 try clear cf53
 try clear cf54
 try clear cf55
 try clear cf56
 try clear cf57
 have cf58:=blk2 (Aa hz9 HC2_1.out);have cf59:=blk1 (Aa hz9 HC2_2.out);have cf60:=blk2 (Aa hz9 HC2_3.out);have cf61:=blk10 (Aa hz9 HC2_4.out);have cf62:=blk12 (Aa hz9 HC2_5.out);have cf63:=blk2 (Aa hz9 HC2_6.out);have cf64:=blk2 (Aa hz9 HC2_7.out);have cf65:=blk12 (Aa hz9 HC2_8.out)
 go_wp2_with fail
 refine HK.out _ _ hz9 ?_;clear HK K;refine oneStep (fun K HK=>?_);simp only [PK]
 go_wp2_with fail
 refine(s_FailedInterfaces d _ _ de _ r _ (rC.ext hz9) (rN.ext hz9) (rE.ext hz9) hds).mono ?_;rintro e w10 ⟨rfl,hz10⟩;rw [← HFI.out]
 try clear cf58
 try clear cf59
 try clear cf60
 try clear cf61
 try clear cf62
 try clear cf63
 try clear cf64
 try clear cf65
 have cf66:=blk2 (Aa (hz9.t hz10) HC2_1.out);have cf67:=blk1 (Aa (hz9.t hz10) HC2_2.out);have cf68:=blk2 (Aa (hz9.t hz10) HC2_3.out);have cf69:=blk10 (Aa (hz9.t hz10) HC2_4.out);have cf70:=blk12 (Aa (hz9.t hz10) HC2_5.out);have cf71:=blk2 (Aa (hz9.t hz10) HC2_6.out);have cf72:=blk2 (Aa (hz9.t hz10) HC2_7.out);have cf73:=blk12 (Aa (hz9.t hz10) HC2_8.out)
 go_wp2_with fail
 refine HK.out _ _ hz10 ?_;clear HK K;refine blkStep (fun K HK=>?_);simp only [PK]
 go_wp2_with fail
 refine HK.out _ _ ?_;clear HK K;refine oneStep (fun K HK=>?_);simp only [PK]
 go_wp2_with fail
 refine(i_FormatTrace v _ _ y _ _ _ _ (rF.ext (hz9.t hz10)) (rT.ext (hz9.t hz10)) hyl).mono ?_;rintro e w11 ⟨rfl,hz11⟩;rw [← HST.out]
 try clear cf66
 try clear cf67
 try clear cf68
 try clear cf69
 try clear cf70
 try clear cf71
 try clear cf72
 try clear cf73
 have cf74:=blk2 (Aa ((hz9.t hz10).t hz11) HC2_1.out);have cf75:=blk1 (Aa ((hz9.t hz10).t hz11) HC2_2.out);have cf76:=blk2 (Aa ((hz9.t hz10).t hz11) HC2_3.out);have cf77:=blk10 (Aa ((hz9.t hz10).t hz11) HC2_4.out);have cf78:=blk12 (Aa ((hz9.t hz10).t hz11) HC2_5.out);have cf79:=blk2 (Aa ((hz9.t hz10).t hz11) HC2_6.out);have cf80:=blk2 (Aa ((hz9.t hz10).t hz11) HC2_7.out);have cf81:=blk12 (Aa ((hz9.t hz10).t hz11) HC2_8.out)
 go_wp2_with fail
 refine HK.out _ _ hz11 ?_;clear HK K;refine oneStep (fun K HK=>?_);simp only [PK]
 go_wp2_with fail
 refine(s_FormatTrace v _ _ y _ _ _ _ (rF.ext ((hz9.t hz10).t hz11)) (rT.ext ((hz9.t hz10).t hz11)) hyl).mono ?_;rintro e w12 ⟨rfl,hz12⟩;rw [← HST.out]
 try clear cf74
 try clear cf75
 try clear cf76
 try clear cf77
 try clear cf78
 try clear cf79
 try clear cf80
 try clear cf81
 have cf82:=blk2 (Aa (((hz9.t hz10).t hz11).t hz12) HC2_1.out);have cf83:=blk1 (Aa (((hz9.t hz10).t hz11).t hz12) HC2_2.out);have cf84:=blk2 (Aa (((hz9.t hz10).t hz11).t hz12) HC2_3.out);have cf85:=blk10 (Aa (((hz9.t hz10).t hz11).t hz12) HC2_4.out);have cf86:=blk12 (Aa (((hz9.t hz10).t hz11).t hz12) HC2_5.out);have cf87:=blk2 (Aa (((hz9.t hz10).t hz11).t hz12) HC2_6.out);have cf88:=blk2 (Aa (((hz9.t hz10).t hz11).t hz12) HC2_7.out);have cf89:=blk12 (Aa (((hz9.t hz10).t hz11).t hz12) HC2_8.out)
 go_wp2_with fail
 refine HK.out _ _ hz12 ?_;clear HK K;have HC3_1:=Ac (Aa (((hz9.t hz10).t hz11).t hz12) HC2_1.out);have HC3_2:=Ac (Aa (((hz9.t hz10).t hz11).t hz12) HC2_2.out);have HC3_3:=Ac (Aa (((hz9.t hz10).t hz11).t hz12) HC2_3.out);have HC3_4:=Ac (Aa (((hz9.t hz10).t hz11).t hz12) HC2_4.out);have HC3_5:=Ac (Aa (((hz9.t hz10).t hz11).t hz12) HC2_5.out);have HC3_6:=Ac (Aa (((hz9.t hz10).t hz11).t hz12) HC2_6.out);have HC3_7:=Ac (Aa (((hz9.t hz10).t hz11).t hz12) HC2_7.out);have HC3_8:=Ac (Aa (((hz9.t hz10).t hz11).t hz12) HC2_8.out);replace rA:=rA.ext (((hz9.t hz10).t hz11).t hz12);replace rL:=rL.ext (((hz9.t hz10).t hz11).t hz12);replace rP:=rP.ext (((hz9.t hz10).t hz11).t hz12);replace rB:=rB.ext (((hz9.t hz10).t hz11).t hz12);replace rM:=rM.ext (((hz9.t hz10).t hz11).t hz12);replace rD:=rD.ext (((hz9.t hz10).t hz11).t hz12);replace r0:=r0.ext (((hz9.t hz10).t hz11).t hz12);replace r1:=r1.ext (((hz9.t hz10).t hz11).t hz12);replace rS:=rS.ext (((hz9.t hz10).t hz11).t hz12);replace rQ:=rQ.ext (((hz9.t hz10).t hz11).t hz12);replace rY:=rY.ext (((hz9.t hz10).t hz11).t hz12);replace rC:=rC.ext (((hz9.t hz10).t hz11).t hz12);replace rN:=rN.ext (((hz9.t hz10).t hz11).t hz12);replace rE:=rE.ext (((hz9.t hz10).t hz11).t hz12);replace rF:=rF.ext (((hz9.t hz10).t hz11).t hz12);replace rO:=rO.ext (((hz9.t hz10).t hz11).t hz12)
 replace rT:=rT.ext (((hz9.t hz10).t hz11).t hz12);replace rU:=rU.ext (((hz9.t hz10).t hz11).t hz12);replace rV:=rV.ext (((hz9.t hz10).t hz11).t hz12);replace rG:=rG.ext (((hz9.t hz10).t hz11).t hz12);replace rH:=rH.ext (((hz9.t hz10).t hz11).t hz12)
 have hq3:=((((hq2.trans hz9).trans hz10).trans hz11).trans hz12)
 refine blkStep (fun K HK=>?_);simp only [PK]
 go_wp2_with fail
 refine HK.out _ _ ?_;clear HK K;refine oneStep (fun K HK=>?_);simp only [PK]
 go_wp2_with fail
 refine(i_TraceInterfaces y _ _ _ _ (rT.ext (Ab _)) (rU.ext (Ab _)) (rV.ext (Ab _)) hys).mono ?_;rintro e w13 ⟨vI1,rfl,OI1,hz13⟩;have rI1:=Bo OI1;clear OI1;obtain⟨o_I1,c_I1,rfl,_⟩:=rI1.shape
 try clear cf82
 try clear cf83
 try clear cf84
 try clear cf85
 try clear cf86
 try clear cf87
 try clear cf88
 try clear cf89
 have cf90:=blk2 (Aa hz13 HC3_1.out);have cf91:=blk1 (Aa hz13 HC3_2.out);have cf92:=blk2 (Aa hz13 HC3_3.out);have cf93:=blk10 (Aa hz13 HC3_4.out);have cf94:=blk12 (Aa hz13 HC3_5.out);have cf95:=blk2 (Aa hz13 HC3_6.out);have cf96:=blk2 (Aa hz13 HC3_7.out);have cf97:=blk12 (Aa hz13 HC3_8.out)
 go_wp2_with fail
 refine HK.out _ _ hz13 ?_;clear HK K;refine oneStep (fun K HK=>?_);simp only [PK]
 go_wp2_with fail
 refine(s_TraceInterfaces y _ _ _ _ (rT.ext hz13) (rU.ext hz13) (rV.ext hz13) hys).mono ?_;rintro e w14 ⟨vI2,rfl,OI2,hz14⟩;have rI2:=Bo OI2;clear OI2;obtain⟨o_I2,c_I2,rfl,_⟩:=rI2.shape
 try clear cf90
 try clear cf91
 try clear cf92
 try clear cf93
 try clear cf94
 try clear cf95
 try clear cf96
 try clear cf97
 have cf98:=blk2 (Aa (hz13.t hz14) HC3_1.out);have cf99:=blk1 (Aa (hz13.t hz14) HC3_2.out);have cf100:=blk2 (Aa (hz13.t hz14) HC3_3.out);have cf101:=blk10 (Aa (hz13.t hz14) HC3_4.out);have cf102:=blk12 (Aa (hz13.t hz14) HC3_5.out);have cf103:=blk2 (Aa (hz13.t hz14) HC3_6.out);have cf104:=blk2 (Aa (hz13.t hz14) HC3_7.out);have cf105:=blk12 (Aa (hz13.t hz14) HC3_8.out)
 go_wp2_with fail
 refine HK.out _ _ hz14 ?_;clear HK K;refine oneStep (fun K HK=>?_);simp only [PK]
 go_wp2_with fail
 refine(l_sameInts (usedIfs y.steps) _ (usedIfs y.steps) _ _ (rI1.ext hz14) (rI2.ext (Ab _))).mono ?_;rintro e w15 ⟨rfl,hz15⟩;rw [show decide (usedIfs y.steps=usedIfs y.steps)=true by simp]
 try clear cf98
 try clear cf99
 try clear cf100
 try clear cf101
 try clear cf102
 try clear cf103
 try clear cf104
 try clear cf105
 have cf106:=blk2 (Aa ((hz13.t hz14).t hz15) HC3_1.out);have cf107:=blk1 (Aa ((hz13.t hz14).t hz15) HC3_2.out);have cf108:=blk2 (Aa ((hz13.t hz14).t hz15) HC3_3.out);have cf109:=blk10 (Aa ((hz13.t hz14).t hz15) HC3_4.out);have cf110:=blk12 (Aa ((hz13.t hz14).t hz15) HC3_5.out);have cf111:=blk2 (Aa ((hz13.t hz14).t hz15) HC3_6.out);have cf112:=blk2 (Aa ((hz13.t hz14).t hz15) HC3_7.out);have cf113:=blk12 (Aa ((hz13.t hz14).t hz15) HC3_8.out)
 go_wp2_with fail
 refine HK.out _ _ hz15 ?_;clear HK K;refine blkStep (fun K HK=>?_);simp only [PK]
 go_wp2_with fail
 refine HK.out _ _ ?_;clear HK K;refine oneStep (fun K HK=>?_);simp only [PK]
 go_wp2_with fail
 refine(i_EqualSteps a _ b _ _ (rG.ext ((hz13.t hz14).t hz15)) (rH.ext ((hz13.t hz14).t hz15))).mono ?_;rintro e w16 ⟨rfl,hz16⟩;rw [← HEB.out]
 try clear cf106
 try clear cf107
 try clear cf108
 try clear cf109
 try clear cf110
 try clear cf111
 try clear cf112
 try clear cf113
 have cf114:=blk2 (Aa (((hz13.t hz14).t hz15).t hz16) HC3_1.out);have cf115:=blk1 (Aa (((hz13.t hz14).t hz15).t hz16) HC3_2.out);have cf116:=blk2 (Aa (((hz13.t hz14).t hz15).t hz16) HC3_3.out);have cf117:=blk10 (Aa (((hz13.t hz14).t hz15).t hz16) HC3_4.out);have cf118:=blk12 (Aa (((hz13.t hz14).t hz15).t hz16) HC3_5.out);have cf119:=blk2 (Aa (((hz13.t hz14).t hz15).t hz16) HC3_6.out);have cf120:=blk2 (Aa (((hz13.t hz14).t hz15).t hz16) HC3_7.out);have cf121:=blk12 (Aa (((hz13.t hz14).t hz15).t hz16) HC3_8.out)
 go_wp2_with fail
 refine HK.out _ _ hz16 ?_;clear HK K;refine oneStep (fun K HK=>?_);simp only [PK]
 go_wp2_with fail
 refine(l_sameSteps a _ b _ _ (rG.ext (((hz13.t hz14).t hz15).t hz16)) (rH.ext (((hz13.t hz14).t hz15).t hz16))).mono ?_;rintro e w17 ⟨rfl,hz17⟩;rw [← HEB.out]
 try clear cf114
 try clear cf115
 try clear cf116
 try clear cf117
 try clear cf118
 try clear cf119
 try clear cf120
 try clear cf121
 have cf122:=blk2 (Aa ((((hz13.t hz14).t hz15).t hz16).t hz17) HC3_1.out);have cf123:=blk1 (Aa ((((hz13.t hz14).t hz15).t hz16).t hz17) HC3_2.out);have cf124:=blk2 (Aa ((((hz13.t hz14).t hz15).t hz16).t hz17) HC3_3.out);have cf125:=blk10 (Aa ((((hz13.t hz14).t hz15).t hz16).t hz17) HC3_4.out);have cf126:=blk12 (Aa ((((hz13.t hz14).t hz15).t hz16).t hz17) HC3_5.out);have cf127:=blk2 (Aa ((((hz13.t hz14).t hz15).t hz16).t hz17) HC3_6.out);have cf128:=blk2 (Aa ((((hz13.t hz14).t hz15).t hz16).t hz17) HC3_7.out);have cf129:=blk12 (Aa ((((hz13.t hz14).t hz15).t hz16).t hz17) HC3_8.out)
 go_wp2_with fail
 refine HK.out _ _ hz17 ?_;clear HK K;refine blkStep (fun K HK=>?_);simp only [PK]
 go_wp2_with fail
 refine HK.out _ _ ?_;clear HK K;refine Ap (by kernel_rfl) ?_;clear hne1 hne2 hne3 hne4
 try clear cf122
 try clear cf123
 try clear cf124
 try clear cf125
 try clear cf126
 try clear cf127
 try clear cf128
 try clear cf129
 have cf130:=blk2 (Aa ((((hz13.t hz14).t hz15).t hz16).t hz17) HC3_1.out);have cf131:=blk1 (Aa ((((hz13.t hz14).t hz15).t hz16).t hz17) HC3_2.out);have HC4_1:=Ac (Aa ((((hz13.t hz14).t hz15).t hz16).t hz17) HC3_1.out);have HC4_2:=Ac (Aa ((((hz13.t hz14).t hz15).t hz16).t hz17) HC3_2.out);replace rA:=rA.ext ((((hz13.t hz14).t hz15).t hz16).t hz17);replace rL:=rL.ext ((((hz13.t hz14).t hz15).t hz16).t hz17);replace rP:=rP.ext ((((hz13.t hz14).t hz15).t hz16).t hz17)
 have hq4:=(((((hq3.trans hz13).trans hz14).trans hz15).trans hz16).trans hz17)
 go_upto_region 11 with (fail)
 go_cut [17] (fun v wc=>∃ (b:Nat) (tr1:Trc) (b10 b11 b12:Option Addr) (d10 d11 d12:Nat),v=.pointer (some ⟨b,0,none⟩)∧Hid (tr1=traverse t 50 [] (newPkt 1 p 0 0 []))∧wc.heap[b]?=some (.cells #[.int .i64 tr1.code,.slice b10 tr1.steps.length d10,.int .i64 tr1.pkt.kind,.int .i64 tr1.pkt.src,.int .i64 tr1.pkt.dst,.slice b11 tr1.pkt.path.parts.length d11,.int .i64 tr1.pkt.pi,.int .i64 tr1.pkt.hi,.int .i64 tr1.pkt.beta,.int .i64 tr1.pkt.rid,.int .i64 tr1.pkt.seq,.slice b12 tr1.pkt.pay.length d12] 40)∧RdS Step.rep wc (.slice b10 tr1.steps.length d10) tr1.steps∧RdS Part.rep wc (.slice b11 tr1.pkt.path.parts.length d11) tr1.pkt.path.parts∧RdS Rep.byte wc (.slice b12 tr1.pkt.pay.length d12) tr1.pkt.pay∧Ext w17 wc)
 case first=>
  have hl2:(newPkt 1 p 0 0 []).size≤1048576:=by rw [newPkt_size];simp;omega
  refine Ax (.blk [0,2] (.tri 1 3 6 (.two 3 6 (.two 4 6 (.two 5 6 (.one 6 (.one 7 .done)) (.one 5 (.one 7 .done))) (.one 4 (.one 5 (.one 7 .done)))) (.one 3 (.one 4 (.one 5 (.one 7 .done))))) (.tri 1 4 6 (.two 4 6 (.two 5 6 (.one 6 (.one 7 .done)) (.one 5 (.one 7 .done))) (.one 4 (.one 5 (.one 7 .done)))) (.two 1 6 (.two 5 6 (.one 6 (.one 7 .done)) (.one 5 (.one 7 .done))) (.one 1 (.one 5 (.one 7 .done)))) (.two 1 4 (.one 4 (.one 5 (.one 7 .done))) (.one 1 (.one 5 (.one 7 .done))))) (.two 1 3 (.one 3 (.one 4 (.one 5 (.one 7 .done)))) (.two 1 4 (.one 4 (.one 5 (.one 7 .done))) (.one 1 (.one 5 (.one 7 .done))))))) [7] (by kernel_rfl) (by kernel_rfl) ?_;have hX:=(Ab w17).drew
  obtain⟨wu,hnw⟩:∃ wn,wn=w17.drew:=⟨_,rfl⟩
  rw [← hnw] at hX ⊢
  clear hnw;have cd0:=blk2 (Aa (hX) HC4_1.out);have cd1:=blk1 (Aa (hX) HC4_2.out);refine blkStep (fun K HK=>?_);simp only [PK]
  go_wp2_with fail
  refine HK.out _ _ ?_;clear HK K cd0 cd1
  repeat' (first
   | refine triStep ?_ ?_ ?_
   | refine twoStep ?_ ?_
   | (
    refine oneStep (i := 1) (fun K HK => ?_); simp only [PK]
    go_wp2_with fail
    have rN1 := Bb (hf := intFlen) (Bj intF 1 0 3 wu (Nat.zero_le _)); have hN : Ext wu (wu.alloc (.cells #[] 3)) := (Ab _).alloc _; refine HK.out _ _ hN ?_; clear HK K; generalize wu.alloc (.cells #[] 3) = wu at rN1 hN ⊢
    try replace rN1 := rN1.ext hN
    try replace rN3 := rN3.ext hN
    try replace rU0 := rU0.ext hN
    try replace rU1 := rU1.ext hN
    try replace oo := Trc.own_ext oo hN
    try replace HBA := Ac (Aa hN HBA.out)
    replace hX := hX.trans hN
    clear hN)
   | (
    refine oneStep (i := 3) (fun K HK => ?_); simp only [PK]
    go_wp2_with fail
    have rN3 := Bb (hf := byteFlen) (Bj byteF 1 0 5 wu (Nat.zero_le _)); have hN : Ext wu (wu.alloc (.cells #[] 5)) := (Ab _).alloc _; refine HK.out _ _ hN ?_; clear HK K; generalize wu.alloc (.cells #[] 5) = wu at rN3 hN ⊢
    try replace rN1 := rN1.ext hN
    try replace rN3 := rN3.ext hN
    try replace rU0 := rU0.ext hN
    try replace rU1 := rU1.ext hN
    try replace oo := Trc.own_ext oo hN
    try replace HBA := Ac (Aa hN HBA.out)
    replace hX := hX.trans hN
    clear hN)
   | (
    refine oneStep (i := 4) (fun K HK => ?_); simp only [PK]
    go_wp2_with fail
    refine (i_NewPacket 1 p _ 0 0 [] _ _ (rP.ext hX) rN3 (by omega) (by simp)).mono ?_; rintro e wu ⟨u0, u1, rfl, ou, hN⟩; have rU0 := As ou; have rU1 := At ou; clear ou
    go_wp2_with fail
    refine HK.out _ _ hN ?_; clear HK K
    try replace rN1 := rN1.ext hN
    try replace rN3 := rN3.ext hN
    try replace rU0 := rU0.ext hN
    try replace rU1 := rU1.ext hN
    try replace oo := Trc.own_ext oo hN
    try replace HBA := Ac (Aa hN HBA.out)
    replace hX := hX.trans hN
    clear hN)
   | (
    refine oneStep (i := 5) (fun K HK => ?_); simp only [PK]
    go_wp2_with fail
    refine (i_Traverse t _ _ 50 [] _ (newPkt 1 p 0 0 []) _ _ _ (rA.ext hX) (rL.ext hX) rN1 rU0 rU1 hts hl2).mono ?_; rintro e wu ⟨x0, x1, x2, rfl, oo, hN⟩
    obtain ⟨tr, htr⟩ : ∃ tr, tr = traverse t 50 [] (newPkt 1 p 0 0 []) := ⟨_, rfl⟩
    rw [← htr] at oo ⊢
    have HTR := Ac htr; clear htr; obtain ⟨b0, d0, rfl, _⟩ := (Trc.own_rd0 oo).shape; obtain ⟨b1, d1, rfl, _⟩ := (Trc.own_rd1 oo).shape; obtain ⟨b2, d2, rfl, _⟩ := (Trc.own_rd2 oo).shape
    try replace oo := Trc.own_mono (T := fun k => k ≠ bx) oo (fun k hk e => by have h1 := hk.1; have h2 := blk_lt HBA.out; omega)
    go_wp2_with fail
    refine HK.out _ _ hN ?_; clear HK K
    try replace rN1 := rN1.ext hN
    try replace rN3 := rN3.ext hN
    try replace rU0 := rU0.ext hN
    try replace rU1 := rU1.ext hN
    try replace oo := Trc.own_ext oo hN
    try replace HBA := Ac (Aa hN HBA.out)
    replace hX := hX.trans hN
    clear hN)
   | (
    obtain ⟨bx, hbx⟩ : ∃ b, b = wu.heap.size := ⟨_, rfl⟩
    refine oneStep (i := 6) (fun K HK => ?_); simp only [PK]
    go_wp2_with fail
    have HBA := Ac (blk_new wu (.cells #[.int .i64 0, .slice none 0 0, .int .i64 0, .int .i64 0, .int .i64 0, .slice none 0 0, .int .i64 0, .int .i64 0, .int .i64 0, .int .i64 0, .int .i64 0, .slice none 0 0] 40)); have hN : Ext wu (wu.alloc (.cells #[.int .i64 0, .slice none 0 0, .int .i64 0, .int .i64 0, .int .i64 0, .slice none 0 0, .int .i64 0, .int .i64 0, .int .i64 0, .int .i64 0, .int .i64 0, .slice none 0 0] 40)) := (Ab _).alloc _; have hbx0 : w17.heap.size ≤ bx := by rw [hbx]; exact hX.size
    refine HK.out _ _ hN ?_; clear HK K; rw [← hbx] at HBA ⊢
    try replace oo := Trc.own_mono (T := fun k => k ≠ bx) (Trc.own_inb oo) (fun k hk e => by have h2 := hk.2; omega)
    generalize wu.alloc (.cells #[.int .i64 0, .slice none 0 0, .int .i64 0, .int .i64 0, .int .i64 0, .slice none 0 0, .int .i64 0, .int .i64 0, .int .i64 0, .int .i64 0, .int .i64 0, .slice none 0 0] 40) = wu at HBA hN ⊢
    clear hbx
    try replace rN1 := rN1.ext hN
    try replace rN3 := rN3.ext hN
    try replace rU0 := rU0.ext hN
    try replace rU1 := rU1.ext hN
    try replace oo := Trc.own_ext oo hN
    try replace HBA := Ac (Aa hN HBA.out)
    replace hX := hX.trans hN
    clear hN)
   | (
    refine badStep (i := 7) (by kernel_rfl) (fun K HK => ?_); have hcs := blk12 HBA.out; have hfs0 := fr12 HBA.out; simp only [PK]
    go_wp2_with fail
    refine HK.out _ _ ?_; clear HK K hcs hfs0; refine Ap (by kernel_rfl) ?_
    go_wp2_with fail
    go_meet
    obtain ⟨wv, hwv, hbv, hcv, hsv⟩ := vd_set HBA.out (.int .i64 tr.code) ( .slice b0 tr.steps.length d0) ( .int .i64 tr.pkt.kind) ( .int .i64 tr.pkt.src) ( .int .i64 tr.pkt.dst) ( .slice b1 tr.pkt.path.parts.length d1) ( .int .i64 tr.pkt.pi) ( .int .i64 tr.pkt.hi) ( .int .i64 tr.pkt.beta) ( .int .i64 tr.pkt.rid) ( .int .i64 tr.pkt.seq) ( .slice b2 tr.pkt.pay.length d2); rw [← hwv]; have ok := Trc.own_kept oo hcv (fun k hk (e : k = bx) => hk e)
    exact ⟨bx, tr, b0, b1, b2, d0, d1, d2, rfl, HTR, hbv, Trc.own_rd0 ok, Trc.own_rd1 ok, Trc.own_rd2 ok, hX.chg1 hcv hbx0⟩))
 case rest=>
  obtain⟨bk1,tr1,b10,b11,b12,d10,d11,d12,rfl,HTR1,hbt,rS1,rP1,rY1,hxt1⟩:=hcut
  obtain⟨wt1,hwt⟩:∃ wt:World,wt=wc:=⟨_,rfl⟩
  subst hwt;have HBT1:=Ac hbt;clear hbt
  try clear cf130
  try clear cf131
  have cf132:=blk2 (Aa hxt1 HC4_1.out);have cf133:=blk1 (Aa hxt1 HC4_2.out);have cf134:=blk12 HBT1.out
  go_wp2_with fail
  refine(i_PathUsable t _ _ p _ 50 _ (rA.ext hxt1) (rL.ext hxt1) (rP.ext hxt1) (by omega)).mono ?_;rintro e w18 ⟨rfl,hz18⟩
  cases hub:usable t p 50
  ·
   try clear cf132
   try clear cf133
   try clear cf134
   have cf135:=blk2 (Aa (hxt1.t hz18) HC4_1.out);have cf136:=blk1 (Aa (hxt1.t hz18) HC4_2.out);have cf137:=blk12 (Aa hz18 HBT1.out)
   go_wp2_with fail
   refine Ax (.blk [0,1,2] (.blk [3,4,5,6] (.blk [7,8,9] (.one 10 (.one 11 (.blk [12,13] (.blk [14,16] (.one 15 (.one 17 (.blk [18] (.blk [19,20] .done))))))))))) [] (by kernel_rfl) (by kernel_rfl) ?_
   try clear cf135
   try clear cf136
   try clear cf137
   have cf138:=blk2 (Aa ((hxt1.t hz18).t ((Ab _).drew)) HC4_1.out);have cf139:=blk1 (Aa ((hxt1.t hz18).t ((Ab _).drew)) HC4_2.out);have cf140:=blk12 (Aa (hz18.t ((Ab _).drew)) HBT1.out);refine blkStep (fun K HK=>?_);simp only [PK]
   go_wp2_with fail
   refine HK.out _ _ ?_;clear HK K;refine blkSkip [116,117,118,119] (by kernel_rfl) ?_;simp only [undefs,Act.put,List.setIfInBounds_toArray,List.set_cons_succ,List.set_cons_zero];refine blkSkip [120,121,122] (by kernel_rfl) ?_;simp only [undefs,Act.put,List.setIfInBounds_toArray,List.set_cons_succ,List.set_cons_zero];refine oneSkip [123] (by kernel_rfl) ?_;simp only [undefs,Act.put,List.setIfInBounds_toArray,List.set_cons_succ,List.set_cons_zero];refine oneSkip [124] (by kernel_rfl) ?_;simp only [undefs,Act.put,List.setIfInBounds_toArray,List.set_cons_succ,List.set_cons_zero];refine blkSkip [125,126] (by kernel_rfl) ?_;simp only [undefs,Act.put,List.setIfInBounds_toArray,List.set_cons_succ,List.set_cons_zero];refine blkSkip [127,129] (by kernel_rfl) ?_;simp only [undefs,Act.put,List.setIfInBounds_toArray,List.set_cons_succ,List.set_cons_zero];refine oneSkip [128] (by kernel_rfl) ?_;simp only [undefs,Act.put,List.setIfInBounds_toArray,List.set_cons_succ,List.set_cons_zero];refine oneSkip [130] (by kernel_rfl) ?_;simp only [undefs,Act.put,List.setIfInBounds_toArray,List.set_cons_succ,List.set_cons_zero];refine blkSkip [131] (by kernel_rfl) ?_;simp only [undefs,Act.put,List.setIfInBounds_toArray,List.set_cons_succ,List.set_cons_zero];refine blkStep (fun K HK=>?_);simp only [PK]
   go_wp2_with fail
   refine HK.out _ _ ?_;clear HK K;refine Ap (by kernel_rfl) ?_
   go_wp2_with fail
   go_ret
   exact⟨rfl,(((hq4.trans hxt1).trans hz18).trans ((Ab _).drew))⟩
  try clear cf132
  try clear cf133
  try clear cf134
  have cf141:=blk2 (Aa (hxt1.t hz18) HC4_1.out);have cf142:=blk1 (Aa (hxt1.t hz18) HC4_2.out);have cf143:=blk12 (Aa hz18 HBT1.out)
  go_wp2_with fail
  refine(i_PathAllowed t _ _ p _ _ (rL.ext (hxt1.t hz18)) (rP.ext (hxt1.t hz18)) (by omega)).mono ?_;rintro e w19 ⟨ba,rfl,hba,hz19⟩
  cases hq:ba
  ·
   clear hba hq
   try clear cf141
   try clear cf142
   try clear cf143
   have cf144:=blk2 (Aa ((hxt1.t hz18).t hz19) HC4_1.out);have cf145:=blk1 (Aa ((hxt1.t hz18).t hz19) HC4_2.out);have cf146:=blk12 (Aa (hz18.t hz19) HBT1.out)
   go_wp2_with fail
   refine Ax (.blk [0,1,2] (.blk [3,4,5,6] (.blk [7,8,9] (.one 10 (.one 11 (.blk [12,13] (.blk [14,16] (.one 15 (.one 17 (.blk [18] (.blk [19,20] .done))))))))))) [] (by kernel_rfl) (by kernel_rfl) ?_
   try clear cf144
   try clear cf145
   try clear cf146
   have cf147:=blk2 (Aa (((hxt1.t hz18).t hz19).t ((Ab _).drew)) HC4_1.out);have cf148:=blk1 (Aa (((hxt1.t hz18).t hz19).t ((Ab _).drew)) HC4_2.out);have cf149:=blk12 (Aa ((hz18.t hz19).t ((Ab _).drew)) HBT1.out);refine blkStep (fun K HK=>?_);simp only [PK]
   go_wp2_with fail
   refine HK.out _ _ ?_;clear HK K;refine blkSkip [116,117,118,119] (by kernel_rfl) ?_;simp only [undefs,Act.put,List.setIfInBounds_toArray,List.set_cons_succ,List.set_cons_zero];refine blkSkip [120,121,122] (by kernel_rfl) ?_;simp only [undefs,Act.put,List.setIfInBounds_toArray,List.set_cons_succ,List.set_cons_zero];refine oneSkip [123] (by kernel_rfl) ?_;simp only [undefs,Act.put,List.setIfInBounds_toArray,List.set_cons_succ,List.set_cons_zero];refine oneSkip [124] (by kernel_rfl) ?_;simp only [undefs,Act.put,List.setIfInBounds_toArray,List.set_cons_succ,List.set_cons_zero];refine blkSkip [125,126] (by kernel_rfl) ?_;simp only [undefs,Act.put,List.setIfInBounds_toArray,List.set_cons_succ,List.set_cons_zero];refine blkSkip [127,129] (by kernel_rfl) ?_;simp only [undefs,Act.put,List.setIfInBounds_toArray,List.set_cons_succ,List.set_cons_zero];refine oneSkip [128] (by kernel_rfl) ?_;simp only [undefs,Act.put,List.setIfInBounds_toArray,List.set_cons_succ,List.set_cons_zero];refine oneSkip [130] (by kernel_rfl) ?_;simp only [undefs,Act.put,List.setIfInBounds_toArray,List.set_cons_succ,List.set_cons_zero];refine blkSkip [131] (by kernel_rfl) ?_;simp only [undefs,Act.put,List.setIfInBounds_toArray,List.set_cons_succ,List.set_cons_zero];refine blkStep (fun K HK=>?_);simp only [PK]
   go_wp2_with fail
   refine HK.out _ _ ?_;clear HK K;refine Ap (by kernel_rfl) ?_
   go_wp2_with fail
   go_ret
   exact⟨rfl,((((hq4.trans hxt1).trans hz18).trans hz19).trans ((Ab _).drew))⟩
  have HO:=start_ok (usable_of hub).1 (PthDrawn.enc TK PDr) (kind:=1) (rid:=0) (seq:=0) (pay:=[]) (by omega) (by omega) (by omega) (by simp);have LAW:=walks HO hub (hba.1 hq);have hre:reaches t 50 [] p=true:=by unfold reaches;rw [LAW.1];rfl
  have hrc:(tr1.code == 1)=true:=by rw [HTR1.out,LAW.1];rfl
  have HRE:=Ac hre;have HSS:=Ac (show decide (tr1.steps=pathSteps p.parts)=true from decide_eq_true (by rw [HTR1.out];exact LAW.2.1));clear HO LAW hba hq hre
  try clear cf141
  try clear cf142
  try clear cf143
  have cf150:=blk2 (Aa ((hxt1.t hz18).t hz19) HC4_1.out);have cf151:=blk1 (Aa ((hxt1.t hz18).t hz19) HC4_2.out);have cf152:=blk12 (Aa (hz18.t hz19) HBT1.out)
  go_wp2_with fail
  refine Ax (.blk [0,1,2] (.blk [3,4,5,6] (.blk [7,8,9] (.one 10 (.one 11 (.blk [12,13] (.blk [14,16] (.one 15 (.one 17 (.blk [18] (.blk [19,20] .done))))))))))) [] (by kernel_rfl) (by kernel_rfl) ?_
  try clear cf150
  try clear cf151
  try clear cf152
  have cf153:=blk2 (Aa (((hxt1.t hz18).t hz19).t ((Ab _).drew)) HC4_1.out);have cf154:=blk1 (Aa (((hxt1.t hz18).t hz19).t ((Ab _).drew)) HC4_2.out);have cf155:=blk12 (Aa ((hz18.t hz19).t ((Ab _).drew)) HBT1.out);refine blkStep (fun K HK=>?_);simp only [PK]
  go_wp2_with fail
  refine HK.out _ _ ?_;clear HK K;refine blkStep (fun K HK=>?_);simp only [PK]
  go_wp2_with fail
  refine HK.out _ _ ?_;clear HK K;refine blkStep (fun K HK=>?_);simp only [PK]
  go_wp2_with fail
  refine HK.out _ _ ?_;clear HK K;refine oneStep (fun K HK=>?_);simp only [PK]
  go_wp2_with fail
  refine(i_PathSteps p _ _ (rP.ext (((hxt1.t hz18).t hz19).t ((Ab _).drew))) (by omega)).mono ?_;rintro e w20 ⟨vs,rfl,OS,hz20⟩;have rs9:=Bb (hf:=Bu) OS;clear OS;obtain⟨os9,cs9,rfl,_⟩:=rs9.shape
  try clear cf153
  try clear cf154
  try clear cf155
  have cf156:=blk2 (Aa ((((hxt1.t hz18).t hz19).t ((Ab _).drew)).t hz20) HC4_1.out);have cf157:=blk1 (Aa ((((hxt1.t hz18).t hz19).t ((Ab _).drew)).t hz20) HC4_2.out);have cf158:=blk12 (Aa (((hz18.t hz19).t ((Ab _).drew)).t hz20) HBT1.out)
  go_wp2_with fail
  refine HK.out _ _ hz20 ?_;clear HK K;refine oneStep (fun K HK=>?_);simp only [PK]
  go_wp2_with fail
  refine(l_sameSteps tr1.steps _ (pathSteps p.parts) _ _ (rS1.ext (((hz18.t hz19).t ((Ab _).drew)).t hz20)) (rs9.ext (Ab _))).mono ?_;rintro e w21 ⟨rfl,hz21⟩;rw [HSS.out]
  try clear cf156
  try clear cf157
  try clear cf158
  have cf159:=blk2 (Aa (((((hxt1.t hz18).t hz19).t ((Ab _).drew)).t hz20).t hz21) HC4_1.out);have cf160:=blk1 (Aa (((((hxt1.t hz18).t hz19).t ((Ab _).drew)).t hz20).t hz21) HC4_2.out);have cf161:=blk12 (Aa ((((hz18.t hz19).t ((Ab _).drew)).t hz20).t hz21) HBT1.out)
  go_wp2_with fail
  refine HK.out _ _ hz21 ?_;clear HK K;refine blkStep (fun K HK=>?_);simp only [PK]
  go_wp2_with fail
  refine HK.out _ _ ?_;clear HK K;refine blkStep (fun K HK=>?_);simp only [PK]
  go_wp2_with fail
  refine HK.out _ _ ?_;clear HK K;refine oneStep (fun K HK=>?_);simp only [PK]
  go_wp2_with fail
  refine HK.out _ _ ((Ab _).alloc _) ?_;clear HK K;refine oneStep (fun K HK=>?_);simp only [PK]
  go_wp2_with fail
  refine(i_Reaches t _ _ 50 [] _ p _ _ (rA.ext ((((((hxt1.t hz18).t hz19).t ((Ab _).drew)).t hz20).t hz21).t ((Ab _).alloc _))) (rL.ext ((((((hxt1.t hz18).t hz19).t ((Ab _).drew)).t hz20).t hz21).t ((Ab _).alloc _))) (by exact Bb (hf:=intFlen) (Cg (f:=intF) (n:=1) (base:=0) (e:=3) (by simp) (Nat.zero_le _))) (rP.ext ((((((hxt1.t hz18).t hz19).t ((Ab _).drew)).t hz20).t hz21).t ((Ab _).alloc _))) hts (by omega)).mono ?_;rintro e w22 ⟨rfl,hz22⟩;rw [HRE.out]
  try clear cf159
  try clear cf160
  try clear cf161
  have cf162:=blk2 (Aa (((((((hxt1.t hz18).t hz19).t ((Ab _).drew)).t hz20).t hz21).t ((Ab _).alloc _)).t hz22) HC4_1.out);have cf163:=blk1 (Aa (((((((hxt1.t hz18).t hz19).t ((Ab _).drew)).t hz20).t hz21).t ((Ab _).alloc _)).t hz22) HC4_2.out);have cf164:=blk12 (Aa ((((((hz18.t hz19).t ((Ab _).drew)).t hz20).t hz21).t ((Ab _).alloc _)).t hz22) HBT1.out)
  go_wp2_with fail
  refine HK.out _ _ hz22 ?_;clear HK K;refine blkStep (fun K HK=>?_);simp only [PK]
  go_wp2_with fail
  refine HK.out _ _ ?_;clear HK K;refine blkStep (fun K HK=>?_);simp only [PK]
  go_wp2_with fail
  refine HK.out _ _ ?_;clear HK K;refine Ap (by kernel_rfl) ?_
  go_wp2_with fail
  go_ret
  exact⟨rfl,((((((((hq4.trans hxt1).trans hz18).trans hz19).trans ((Ab _).drew)).trans hz20).trans hz21).trans ((Ab _).alloc _)).trans hz22)⟩
end
end Go.Proofs.YteodlcpeoaggbaaGreat
