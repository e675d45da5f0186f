/- Draws of what is asked of traversals: steps, traces, links that are down; the law's eye on traces. No condition but the bounds that each theorem names. -/
import Derived.Test.YteodlcpeoaggbaaGreatKVxW22y
import Derived.Test.YteodlcpeoaggbaaGreatKV27
import Derived.Test.YteodlcpeoaggbaaGreatKV41
import Derived.Test.YteodlcpeoaggbaaGreatKV44
import Derived.Test.YteodlcpeoaggbaaGreatKV45
namespace Go.Proofs.YteodlcpeoaggbaaGreat
section
open Go.ChangeShapes Go.WideShapes Go.ChangeAt Go.RowKit Go.Deep
set_option maxRecDepth 100000
set_option maxHeartbeats 40000000
theorem twelve_set {w:World} {b:Nat} {x0 x1 x2 x3 x4 x5 x6 x7 x8 x9 xa xb:Value} {t:TypeId} (h:w.heap[b]?=some (.cells #[x0,x1,x2,x3,x4,x5,x6,x7,x8,x9,xa,xb] t (0,0))) (y0 y1 y2 y3 y4 y5 y6 y7 y8 y9 ya yb:Value) :
  ∃ w5,w5=(((((((((((w.setCell ⟨b,0,none⟩ y0).setCell ⟨b,1,none⟩ y1).setCell ⟨b,2,none⟩ y2).setCell ⟨b,3,none⟩ y3).setCell ⟨b,4,none⟩ y4).setCell ⟨b,5,none⟩ y5).setCell ⟨b,6,none⟩ y6).setCell ⟨b,7,none⟩ y7).setCell ⟨b,8,none⟩ y8).setCell ⟨b,9,none⟩ y9).setCell ⟨b,10,none⟩ ya).setCell ⟨b,11,none⟩ yb∧w5.heap[b]?=some (.cells #[y0,y1,y2,y3,y4,y5,y6,y7,y8,y9,ya,yb] t (0,0))∧Chg (at1 b) w w5:=by
 have q (o:Nat) (u:Value) {wq:World} (h:Chg (at1 b) w wq):=Bw (S:=at1 b) (p:=⟨b,o,none⟩) h rfl u;exact⟨_,rfl,by simpa using blk_set (blk_set (blk_set (blk_set (blk_set (blk_set (blk_set (blk_set (blk_set (blk_set (blk_set (blk_set h 0 y0) 1 y1) 2 y2) 3 y3) 4 y4) 5 y5) 6 y6) 7 y7) 8 y8) 9 y9) 10 ya) 11 yb,q _ _ (q _ _ (q _ _ (q _ _ (q _ _ (q _ _ (q _ _ (q _ _ (q _ _ (q _ _ (q _ _ (q _ _ (Bq _ _))))))))))))⟩
theorem Trc.keep0 {a b:Nat} {w:World} {h0 h1 h2:Value} {x:Trc} (h:Trc.own (rng a b) w h0 h1 h2 x):(Own.keep Step.rep).own (rng a b) w h0 x.steps:=by
 obtain⟨S0,S1,p,q,c0,c1,d⟩:=h;exact Own.mono _ (Be (O:=stepOwn) p) c0
theorem Trc.keep1 {a b:Nat} {w:World} {h0 h1 h2:Value} {x:Trc} (h:Trc.own (rng a b) w h0 h1 h2 x):(Own.keep Part.rep).own (rng a b) w h1 x.pkt.path.parts:=by
 obtain⟨S0,S1,p,⟨T0,T1,q0,q1,e0,e1,_⟩,c0,c1,d⟩:=h;exact Own.mono _ (Be q0) (fun k hk=>c1 k (e0 k hk))
theorem Trc.keep2 {a b:Nat} {w:World} {h0 h1 h2:Value} {x:Trc} (h:Trc.own (rng a b) w h0 h1 h2 x):(Own.keep Rep.byte).own (rng a b) w h2 x.pkt.pay:=by
 obtain⟨S0,S1,p,⟨T0,T1,q0,q1,e0,e1,_⟩,c0,c1,d⟩:=h;exact Own.mono _ (Be q1) (fun k hk=>c1 k (e1 k hk))
theorem l_sameTraceT (x:Trc) (a0 a1 a2 b0 b1 b2:Value) (w:World) (ra0:RdS Step.rep w a0 x.steps) (ra1:RdS Part.rep w a1 x.pkt.path.parts) (ra2:RdS Rep.byte w a2 x.pkt.pay) (rb0:RdS Step.rep w b0 x.steps) (rb1:RdS Part.rep w b1 x.pkt.path.parts) (rb2:RdS Rep.byte w b2 x.pkt.pay) (hl:x.pkt.path.parts.length≤1048576) :
  Calls Tryz.prog 12 #[.agg #[.int .i64 x.code,a0,.int .i64 x.pkt.kind,.int .i64 x.pkt.src,.int .i64 x.pkt.dst,a1,.int .i64 x.pkt.pi,.int .i64 x.pkt.hi,.int .i64 x.pkt.beta,.int .i64 x.pkt.rid,.int .i64 x.pkt.seq,a2],.agg #[.int .i64 x.code,b0,.int .i64 x.pkt.kind,.int .i64 x.pkt.src,.int .i64 x.pkt.dst,b1,.int .i64 x.pkt.pi,.int .i64 x.pkt.hi,.int .i64 x.pkt.beta,.int .i64 x.pkt.rid,.int .i64 x.pkt.seq,b2]] w fun e w'=>e=.returned (.bool true)∧Ext w w':=by
 obtain⟨oa0,ca0,rfl,_⟩:=ra0.shape;obtain⟨oa1,ca1,rfl,_⟩:=ra1.shape;obtain⟨oa2,ca2,rfl,_⟩:=ra2.shape;obtain⟨ob0,cb0,rfl,_⟩:=rb0.shape;obtain⟨ob1,cb1,rfl,_⟩:=rb1.shape;obtain⟨ob2,cb2,rfl,_⟩:=rb2.shape;obtain⟨hx0,HB0⟩:=ea2 w (.cells #[.int .i64 x.code,.slice oa0 x.steps.length ca0,.int .i64 x.pkt.kind,.int .i64 x.pkt.src,.int .i64 x.pkt.dst,.slice oa1 x.pkt.path.parts.length ca1,.int .i64 x.pkt.pi,.int .i64 x.pkt.hi,.int .i64 x.pkt.beta,.int .i64 x.pkt.rid,.int .i64 x.pkt.seq,.slice oa2 x.pkt.pay.length ca2] 40) (.cells #[.int .i64 x.code,.slice ob0 x.steps.length cb0,.int .i64 x.pkt.kind,.int .i64 x.pkt.src,.int .i64 x.pkt.dst,.slice ob1 x.pkt.path.parts.length cb1,.int .i64 x.pkt.pi,.int .i64 x.pkt.hi,.int .i64 x.pkt.beta,.int .i64 x.pkt.rid,.int .i64 x.pkt.seq,.slice ob2 x.pkt.pay.length cb2] 40);replace HB0:=Ac HB0
 go_enter Tryz.func12,Tryz.ntmps12
 have cf1:=blk12 HB0.out.1;have cf2:=blk12 HB0.out.2
 go_wp2_with fail
 refine(l_sameSteps x.steps _ x.steps _ _ (ra0.ext hx0) (rb0.ext hx0)).mono ?_;rintro e w1 ⟨rfl,hz1⟩;rw [show decide (x.steps=x.steps)=true by simp]
 try clear cf1
 try clear cf2
 have cf3:=blk12 (Aa hz1 HB0.out.1);have cf4:=blk12 (Aa hz1 HB0.out.2)
 go_wp2_with fail
 refine(l_samePacketT x.pkt _ _ _ _ _ (ra1.ext (hx0.t hz1)) (ra2.ext (hx0.t hz1)) (rb1.ext (hx0.t hz1)) (rb2.ext (hx0.t hz1)) hl).mono ?_;rintro e w2 ⟨rfl,hz2⟩
 try clear cf3
 try clear cf4
 have cf5:=blk12 (Aa (hz1.t hz2) HB0.out.1);have cf6:=blk12 (Aa (hz1.t hz2) HB0.out.2)
 go_wp2_with fail
 go_ret
 exact⟨rfl,((hx0.t hz1).t hz2)⟩
theorem s_l29Trace (code:List Int) (cv:Value) (w:World) (hr:RdS Rep.byte w cv code) (hu:∀ x∈code,U8 x) (hl:code.length≤1048576) :
  Calls Tryz.prog 45 #[cv] w fun e w'=>∃ (v1 v2 u0 u1 u2:Value) (t:Topo) (x:Trc),e=.returned (.tuple #[.agg #[v1,v2],.agg #[.int .i64 x.code,u0,.int .i64 x.pkt.kind,.int .i64 x.pkt.src,.int .i64 x.pkt.dst,u1,.int .i64 x.pkt.pi,.int .i64 x.pkt.hi,.int .i64 x.pkt.beta,.int .i64 x.pkt.rid,.int .i64 x.pkt.seq,u2]])∧TopoOk t∧x.size≤1048576∧(Own.keep ASd.rep).own (rng w.heap.size w'.heap.size) w' v1 t.ases∧(Own.keep Lnk.rep).own (rng w.heap.size w'.heap.size) w' v2 t.links∧(Own.keep Step.rep).own (rng w.heap.size w'.heap.size) w' u0 x.steps∧(Own.keep Part.rep).own (rng w.heap.size w'.heap.size) w' u1 x.pkt.path.parts∧(Own.keep Rep.byte).own (rng w.heap.size w'.heap.size) w' u2 x.pkt.pay∧Ext w w':=by
 obtain⟨hx0,HB⟩:=ea2 w (.cells #[.slice none 0 0,.slice none 0 0] 27) (.cells #[.int .i64 0,.slice none 0 0,.int .i64 0,.int .i64 0,.int .i64 0,.slice none 0 0,.int .i64 0,.int .i64 0,.int .i64 0,.int .i64 0,.int .i64 0,.slice none 0 0] 40);have hls:w.heap.size+2≤((w.alloc (.cells #[.slice none 0 0,.slice none 0 0] 27)).alloc (.cells #[.int .i64 0,.slice none 0 0,.int .i64 0,.int .i64 0,.int .i64 0,.slice none 0 0,.int .i64 0,.int .i64 0,.int .i64 0,.int .i64 0,.int .i64 0,.slice none 0 0] 40)).heap.size:=by simp
 go_enter Tryz.func45,Tryz.ntmps45
 go_wp2_with fail
 refine(s_DrawTraverse code _ _ (hr.ext hx0) hu hl).mono ?_;rintro e w1 ⟨v1,v2,vd,u0,u1,t,now,dead,y,rfl,TK,hyb,hdl,RA,RL,RD,R0,R1,hn1⟩;have B2:=Aa hn1 HB.1;have B3:=Aa hn1 HB.2;clear HB;have hxe:=hx0.trans hn1;replace RA:=Cd RA hls;have u_RA:w1.heap.size≤w1.heap.size:=Ae _;replace RL:=Cd RL hls;have u_RL:w1.heap.size≤w1.heap.size:=Ae _;replace RD:=Cd RD hls;have u_RD:w1.heap.size≤w1.heap.size:=Ae _;replace R0:=Cd R0 hls;have u_R0:w1.heap.size≤w1.heap.size:=Ae _;replace R1:=Cd R1 hls;have u_R1:w1.heap.size≤w1.heap.size:=Ae _;obtain⟨o1,c1,rfl,_⟩:=Bf (Own.rd _ RA);obtain⟨o2,c2,rfl,_⟩:=Bf (Own.rd _ RL);obtain⟨o_d,c_d,rfl,_⟩:=Bf (Own.rd _ RD);obtain⟨o_0,c_0,rfl,_⟩:=Bf (Own.rd _ R0);obtain⟨o_1,c_1,rfl,_⟩:=Bf (Own.rd _ R1);have hys:=hyb.size;have s:=hxe;clear hxe hn1 hx0;have cb_B2:=blk2 B2;have cb_B3:=blk12 B3
 go_upto_region 2 with (fail)
 clear cb_B2 cb_B3;obtain⟨hxa,BB⟩:=ea2 w1 (.cells #[.slice o1 t.ases.length c1,.slice o2 t.links.length c2] 27) (.cells #[.int .i64 y.kind,.int .i64 y.src,.int .i64 y.dst,.slice o_0 y.path.parts.length c_0,.int .i64 y.pi,.int .i64 y.hi,.int .i64 y.beta,.int .i64 y.rid,.int .i64 y.seq,.slice o_1 y.pay.length c_1] 35);have ltw:w.heap.size+1<w1.heap.size:=blk_lt B3
 obtain⟨b4,eb4⟩:∃ b,b=w1.heap.size:=⟨_,rfl⟩
 rw [← eb4] at ltw;replace B2:=Aa hxa B2;replace B3:=Aa hxa B3;replace RA:=Aj RA hxa;replace u_RA:=Ad u_RA hxa.size;replace RL:=Aj RL hxa;replace u_RL:=Ad u_RL hxa.size;replace RD:=Aj RD hxa;replace u_RD:=Ad u_RD hxa.size;replace R0:=Aj R0 hxa;replace u_R0:=Ad u_R0 hxa.size;replace R1:=Aj R1 hxa;replace u_R1:=Ad u_R1 hxa.size;replace s:=s.trans hxa;have B4:=BB.1;have B5:=BB.2;rw [← eb4] at B4 B5;rw [← eb4];clear hxa BB;generalize ((w1.alloc (.cells #[.slice o1 t.ases.length c1,.slice o2 t.links.length c2] 27)).alloc (.cells #[.int .i64 y.kind,.int .i64 y.src,.int .i64 y.dst,.slice o_0 y.path.parts.length c_0,.int .i64 y.pi,.int .i64 y.hi,.int .i64 y.beta,.int .i64 y.rid,.int .i64 y.seq,.slice o_1 y.pay.length c_1] 35))=wa at B2 B3 B4 B5 RA RL RD R0 R1 u_RA u_RL u_RD u_R0 u_R1 s ⊢
 clear eb4;refine Bl (at1 w.heap.size) [([0,1,2,3,4],5),([],6)] [] [7] (by kernel_rfl) (by kernel_rfl) (by kernel_rfl) ?_;have ch_B4:=blk2 B4;have q0:=Cj (S:=at1 w.heap.size) ch_B4 (by first | omega | (unfold at1;omega) | (simp only;omega));clear ch_B4;have ch_B5:=blk10 B5;have q2:=ChgSW.c10 (S:=at1 w.heap.size) ch_B5 (by first | omega | (unfold at1;omega) | (simp only;omega));clear ch_B5;simp only [wpBlocksX,pickOps,PK];have hch:Chg (at1 w.heap.size) wa wa.drew:=Ar (Ab wa).drew;replace B2:=Aa ((Ab wa).drew) B2;replace B3:=Aa ((Ab wa).drew) B3;replace B4:=Aa ((Ab wa).drew) B4;replace B5:=Aa ((Ab wa).drew) B5;replace RA:=Aj RA ((Ab wa).drew);replace u_RA:=Ad u_RA ((Ab wa).drew).size;replace RL:=Aj RL ((Ab wa).drew);replace u_RL:=Ad u_RL ((Ab wa).drew).size;replace RD:=Aj RD ((Ab wa).drew);replace u_RD:=Ad u_RD ((Ab wa).drew).size;replace R0:=Aj R0 ((Ab wa).drew);replace u_R0:=Ad u_R0 ((Ab wa).drew).size;replace R1:=Aj R1 ((Ab wa).drew);replace u_R1:=Ad u_R1 ((Ab wa).drew).size;replace s:=s.trans ((Ab wa).drew)
 obtain⟨wt,hnw⟩:∃ wn,wn=wa.drew:=⟨_,rfl⟩
 rw [← hnw] at B2 B3 B4 B5 RA RL RD R0 R1 u_RA u_RL u_RD u_R0 u_R1 s hch ⊢
 clear hnw
 repeat (first | go_big_quiet_step (fail) | quiet_step (fail))
 refine wpQuiet_nil ?_;have hts:t.size≤1048576:=by have h1:=TK.n8;have h2:=TK.few;unfold Topo.size;omega
 have hlw:w.heap.size+1<wt.heap.size:=blk_lt B3
 go_wp2_with fail
 refine(s_Traverse t _ _ now dead _ y _ _ _ (Own.rd _ RA) (Own.rd _ RL) (Own.rd _ RD) (Own.rd _ R0) (Own.rd _ R1) hts (by omega)).mono ?_;rintro e w2 ⟨t0,t1,t2,rfl,OT,hzq⟩;replace B2:=Aa hzq B2;replace B3:=Aa hzq B3;replace B4:=Aa hzq B4;replace B5:=Aa hzq B5;replace RA:=Aj RA hzq;replace u_RA:=Ad u_RA hzq.size;replace RL:=Aj RL hzq;replace u_RL:=Ad u_RL hzq.size;replace RD:=Aj RD hzq;replace u_RD:=Ad u_RD hzq.size;replace R0:=Aj R0 hzq;replace u_R0:=Ad u_R0 hzq.size;replace R1:=Aj R1 hzq;replace u_R1:=Ad u_R1 hzq.size;replace s:=s.trans hzq;replace hch:=hch.trans ((Ar hzq))
 obtain⟨x,hx⟩:∃ x,x=traverse t now dead y:=⟨_,rfl⟩
 rw [← hx] at OT ⊢
 have hxs:x.size≤1048576:=by rw [hx];have h1:=traverse_size t now dead y;omega
 clear hx;have R3:=Trc.keep0 OT;have R4:=Trc.keep1 OT;have R5:=Trc.keep2 OT;clear OT;obtain⟨o_3,c_3,rfl,_⟩:=Bf (Own.rd _ R3);have u_R3:=Ae w2.heap.size;obtain⟨o_4,c_4,rfl,_⟩:=Bf (Own.rd _ R4);have u_R4:=Ae w2.heap.size;obtain⟨o_5,c_5,rfl,_⟩:=Bf (Own.rd _ R5);have u_R5:=Ae w2.heap.size;clear hzq
 go_wp2_with fail
 refine⟨⟨⟨_,hch⟩,rfl⟩,?_⟩
 repeat (first | go_big_quiet_step (fail) | quiet_step (fail))
 refine wpQuiet_nil ?_;have hxe:=s;obtain⟨wpa,hwa,hba,hca⟩:=two_set B2 (.slice o1 t.ases.length c1) (.slice o2 t.links.length c2);have HWa:=Ac hwa;clear hwa;have ff0:=fr2 B2;have cb:=blk2 B2
 go_wp2_with fail
 rw [← HWa.out];clear HWa cb ff0;replace hch:=hch.trans (hca.mono (fun b h=>h));refine⟨⟨⟨_,hch⟩,rfl⟩,?_⟩;replace RA:=Af RA hca (by omega);replace u_RA:=Ad u_RA hca.size;replace RL:=Af RL hca (by omega);replace u_RL:=Ad u_RL hca.size;replace RD:=Af RD hca (by omega);replace u_RD:=Ad u_RD hca.size;replace R0:=Af R0 hca (by omega);replace u_R0:=Ad u_R0 hca.size;replace R1:=Af R1 hca (by omega);replace u_R1:=Ad u_R1 hca.size;replace R3:=Af R3 hca (by omega);replace u_R3:=Ad u_R3 hca.size;replace R4:=Af R4 hca (by omega);replace u_R4:=Ad u_R4 hca.size;replace R5:=Af R5 hca (by omega);replace u_R5:=Ad u_R5 hca.size;replace B3:=hca.blkS B3 (by unfold at1;omega);replace B4:=hca.blkS B4 (by unfold at1;omega);replace B5:=hca.blkS B5 (by unfold at1;omega);replace B2:=hba;clear hba;replace hxe:=hxe.chg hca (fun i hi=>by have h1:i=w.heap.size:=hi;omega)
 try clear hca
 repeat (first | go_big_quiet_step (fail) | quiet_step (fail))
 refine wpQuiet_nil ?_;obtain⟨wpb,hwb,hbb,hcb⟩:=twelve_set B3 (.int .i64 x.code) (.slice o_3 x.steps.length c_3) (.int .i64 x.pkt.kind) (.int .i64 x.pkt.src) (.int .i64 x.pkt.dst) (.slice o_4 x.pkt.path.parts.length c_4) (.int .i64 x.pkt.pi) (.int .i64 x.pkt.hi) (.int .i64 x.pkt.beta) (.int .i64 x.pkt.rid) (.int .i64 x.pkt.seq) (.slice o_5 x.pkt.pay.length c_5);have HWb:=Ac hwb;clear hwb;have ff0:=fr12 B3;have cb:=blk12 B3
 go_wp2_with fail
 rw [← HWb.out];clear HWb cb ff0;replace RA:=Af RA hcb (by omega);replace u_RA:=Ad u_RA hcb.size;replace RL:=Af RL hcb (by omega);replace u_RL:=Ad u_RL hcb.size;replace RD:=Af RD hcb (by omega);replace u_RD:=Ad u_RD hcb.size;replace R0:=Af R0 hcb (by omega);replace u_R0:=Ad u_R0 hcb.size;replace R1:=Af R1 hcb (by omega);replace u_R1:=Ad u_R1 hcb.size;replace R3:=Af R3 hcb (by omega);replace u_R3:=Ad u_R3 hcb.size;replace R4:=Af R4 hcb (by omega);replace u_R4:=Ad u_R4 hcb.size;replace R5:=Af R5 hcb (by omega);replace u_R5:=Ad u_R5 hcb.size;replace B2:=hcb.blkS B2 (by unfold at1;omega);replace B4:=hcb.blkS B4 (by unfold at1;omega);replace B5:=hcb.blkS B5 (by unfold at1;omega);replace B3:=hbb;clear hbb;replace hxe:=hxe.chg hcb (fun i hi=>by have h1:i=(w.heap.size+1):=hi;omega)
 try clear hcb
 refine NoPanic.normal ?_;clear hch q0 q2;have cr_B2:=blk2 B2;have cr_B3:=blk12 B3;have cr_B4:=blk2 B4;have cr_B5:=blk10 B5;have hwb:=hxe.size
 go_wp2_with fail
 refine bodyPost_ret (by simp [results,Tryz.results45,go_sem,cr_B2,cr_B3];rfl) rfl ?_;exact⟨_,_,_,_,_,t,x,rfl,TK,hxs,(Bg (Cd RA (by omega)) (Ae _)),(Bg (Cd RL (by omega)) (Ae _)),(Bg (Cd R3 (by omega)) (Ae _)),(Bg (Cd R4 (by omega)) (Ae _)),(Bg (Cd R5 (by omega)) (Ae _)),hxe⟩
theorem s_DrawFormatTrace (code:List Int) (cv:Value) (w:World) (hr:RdS Rep.byte w cv code) (hu:∀ x∈code,U8 x) (hl:code.length≤1048576) :
  Calls Tryz.prog 10 #[cv] w fun e w'=>∃ (v1 v2 u0 u1 u2:Value) (t:Topo) (x:Trc),e=.returned (.tuple #[.agg #[v1,v2],.agg #[.int .i64 x.code,u0,.int .i64 x.pkt.kind,.int .i64 x.pkt.src,.int .i64 x.pkt.dst,u1,.int .i64 x.pkt.pi,.int .i64 x.pkt.hi,.int .i64 x.pkt.beta,.int .i64 x.pkt.rid,.int .i64 x.pkt.seq,u2]])∧TopoOk t∧x.size≤1048576∧RdS ASd.rep w' v1 t.ases∧RdS Lnk.rep w' v2 t.links∧RdS Step.rep w' u0 x.steps∧RdS Part.rep w' u1 x.pkt.path.parts∧RdS Rep.byte w' u2 x.pkt.pay∧Ext w w':=by
 obtain⟨hx0,HB⟩:=ea2 w (.cells #[.slice none 0 0,.slice none 0 0] 27) (.cells #[.int .i64 0,.slice none 0 0,.int .i64 0,.int .i64 0,.int .i64 0,.slice none 0 0,.int .i64 0,.int .i64 0,.int .i64 0,.int .i64 0,.int .i64 0,.slice none 0 0] 40);have hls:w.heap.size+2≤((w.alloc (.cells #[.slice none 0 0,.slice none 0 0] 27)).alloc (.cells #[.int .i64 0,.slice none 0 0,.int .i64 0,.int .i64 0,.int .i64 0,.slice none 0 0,.int .i64 0,.int .i64 0,.int .i64 0,.int .i64 0,.int .i64 0,.slice none 0 0] 40)).heap.size:=by simp
 go_enter Tryz.func10,Tryz.ntmps10
 go_wp2_with fail
 refine(s_l29Trace code _ _ (hr.ext hx0) hu hl).mono ?_;rintro e w1 ⟨v1,v2,u0,u1,u2,t,x,rfl,TK,hxs,RA,RL,R3,R4,R5,hn1⟩;have B2:=Aa hn1 HB.1;have B3:=Aa hn1 HB.2;clear HB;have hxe:=hx0.trans hn1;replace RA:=Cd RA hls;have u_RA:w1.heap.size≤w1.heap.size:=Ae _;replace RL:=Cd RL hls;have u_RL:w1.heap.size≤w1.heap.size:=Ae _;replace R3:=Cd R3 hls;have u_R3:w1.heap.size≤w1.heap.size:=Ae _;replace R4:=Cd R4 hls;have u_R4:w1.heap.size≤w1.heap.size:=Ae _;replace R5:=Cd R5 hls;have u_R5:w1.heap.size≤w1.heap.size:=Ae _;obtain⟨o1,c1,rfl,_⟩:=Bf (Own.rd _ RA);obtain⟨o2,c2,rfl,_⟩:=Bf (Own.rd _ RL);obtain⟨o_3,c_3,rfl,_⟩:=Bf (Own.rd _ R3);obtain⟨o_4,c_4,rfl,_⟩:=Bf (Own.rd _ R4);obtain⟨o_5,c_5,rfl,_⟩:=Bf (Own.rd _ R5);obtain⟨wpc,hwc,hbc,hcc⟩:=two_set B2 (.slice o1 t.ases.length c1) (.slice o2 t.links.length c2);have HWc:=Ac hwc;clear hwc;have fc0:=fr2 B2;have fk0:=fr12 B3;have cb_B2:=blk2 B2;have cb_B3:=blk12 B3
 go_wp2_with fail
 clear cb_B2 cb_B3;rw [← HWc.out];clear HWc fc0 fk0;replace RA:=Af RA hcc (by omega);replace u_RA:=Ad u_RA hcc.size;replace RL:=Af RL hcc (by omega);replace u_RL:=Ad u_RL hcc.size;replace R3:=Af R3 hcc (by omega);replace u_R3:=Ad u_R3 hcc.size;replace R4:=Af R4 hcc (by omega);replace u_R4:=Ad u_R4 hcc.size;replace R5:=Af R5 hcc (by omega);replace u_R5:=Ad u_R5 hcc.size;replace B3:=hcc.blkS B3 (by unfold at1;omega);replace B2:=hbc;clear hbc;replace hxe:=hxe.chg hcc (fun i hi=>by have h1:i=w.heap.size:=hi;omega)
 try clear hcc
 obtain⟨wpd,hwd,hbd,hcd⟩:=twelve_set B3 (.int .i64 x.code) (.slice o_3 x.steps.length c_3) (.int .i64 x.pkt.kind) (.int .i64 x.pkt.src) (.int .i64 x.pkt.dst) (.slice o_4 x.pkt.path.parts.length c_4) (.int .i64 x.pkt.pi) (.int .i64 x.pkt.hi) (.int .i64 x.pkt.beta) (.int .i64 x.pkt.rid) (.int .i64 x.pkt.seq) (.slice o_5 x.pkt.pay.length c_5);rw [← hwd];clear hwd;replace RA:=Af RA hcd (by omega);replace u_RA:=Ad u_RA hcd.size;replace RL:=Af RL hcd (by omega);replace u_RL:=Ad u_RL hcd.size;replace R3:=Af R3 hcd (by omega);replace u_R3:=Ad u_R3 hcd.size;replace R4:=Af R4 hcd (by omega);replace u_R4:=Ad u_R4 hcd.size;replace R5:=Af R5 hcd (by omega);replace u_R5:=Ad u_R5 hcd.size;replace B2:=hcd.blkS B2 (by unfold at1;omega);replace B3:=hbd;clear hbd;replace hxe:=hxe.chg hcd (fun i hi=>by have h1:i=(w.heap.size+1):=hi;omega)
 try clear hcd
 have cr_B2:=blk2 B2;have cr_B3:=blk12 B3;have hwb:=(hx0.trans hn1).size
 go_wp2_with fail
 refine bodyPost_ret (by simp [results,Tryz.results10,go_sem,cr_B2,cr_B3];rfl) rfl ?_;exact⟨_,_,_,_,_,t,x,rfl,TK,hxs,Own.rd _ RA,Own.rd _ RL,Own.rd _ R3,Own.rd _ R4,Own.rd _ R5,hxe⟩
theorem s_DrawEqualSteps (code:List Int) (cv:Value) (w:World) (hr:RdS Rep.byte w cv code) (hu:∀ x∈code,U8 x) (hl:code.length≤1048576) :
  Calls Tryz.prog 11 #[cv] w fun e w'=>∃ (va vb:Value) (a b:List Step),e=.returned (.tuple #[va,vb])∧RdS Step.rep w' va a∧RdS Step.rep w' vb b∧Ext w w':=by
 obtain⟨ES⟩:=elemStep;have hx0:=Ab w
 go_enter Tryz.func11,Tryz.ntmps11
 go_wp2_with fail
 refine(s_l1New code _ _ (hr.ext hx0) hu hl).mono ?_;rintro e w1 ⟨g,rfl,hgl,hc1,hn1⟩;have hgw:=hc1.lt
 have s:DSt g cv code w1 w1:=⟨hc1,Bq _ _,hc1⟩
 clear hc1
 go_wp2_with fail
 have hbs:w1.heap.size≤w1.heap.size:=s.x.size;refine(s_l22Draw g _ _ _ s.c).mono ?_;rintro e w2 ⟨v1,v2,vp,ta,pa,m,rfl,TK,PD,hm1,hm2,RA,RL,RP,hcq,hzq⟩;replace s:=s.draw hcq hzq;obtain⟨o1,c1,rfl,_⟩:=Bf (Own.rd _ RA);obtain⟨o2,c2,rfl,_⟩:=Bf (Own.rd _ RL);obtain⟨op_,cp_,rfl,_⟩:=(Bs RP).shape;have hp4:pa.parts.length≤4:=by have h1:=PD.len;omega
 have hx5:∀ x∈pa.parts,x.hops.length≤5:=fun x hx=>(PD.part x hx).len.2
 have hps:=pth_size hp4 hx5;clear TK PD;have g_RA:g<w1.heap.size:=by omega
 have u_RA:m≤w2.heap.size:=by omega
 have g_RL:g<w1.heap.size:=by omega
 have u_RL:m≤w2.heap.size:=by omega
 have g_RP:g<m:=by omega
 have u_RP:w2.heap.size≤w2.heap.size:=by omega
 clear hzq hcq hbs 
 go_upto_region 3 with (fail)
 obtain⟨hxa,BB⟩:=ea2 w2 (.cells #[.slice o1 ta.ases.length c1,.slice o2 ta.links.length c2] 27) (.cells #[.slice op_ pa.parts.length cp_] 30)
 obtain⟨b5a,eb5a⟩:∃ b,b=w2.heap.size:=⟨_,rfl⟩
 have ltw_b5a:w1.heap.size≤b5a:=by rw [eb5a];exact s.x.size
 have hb_RA_b5a:m≤b5a:=by rw [eb5a];exact u_RA
 have hb_RL_b5a:m≤b5a:=by rw [eb5a];exact u_RL
 have hb_RP_b5a:w2.heap.size≤b5a:=by rw [eb5a];exact u_RP
 replace RA:=Aj RA hxa;replace u_RA:=Ad u_RA hxa.size;replace RL:=Aj RL hxa;replace u_RL:=Ad u_RL hxa.size;replace RP:=Aj RP hxa;replace u_RP:=Ad u_RP hxa.size;replace s:=s.ext hxa;have B5:=BB.1;have B6:=BB.2;rw [← eb5a] at B5 B6;rw [← eb5a];clear hxa BB;generalize ((w2.alloc (.cells #[.slice o1 ta.ases.length c1,.slice o2 ta.links.length c2] 27)).alloc (.cells #[.slice op_ pa.parts.length cp_] 30))=waa at B5 B6 RA RL RP u_RA u_RL u_RP s ⊢
 clear eb5a;have cb_B5:=blk2 B5;have cb_B6:=blk1 B6
 go_wp2_with fail
 clear cb_B5 cb_B6;have hbs:w1.heap.size≤waa.heap.size:=s.x.size;have ltq_B5:b5a<waa.heap.size:=blk_lt B5;have ltq_B6:(b5a+1)<waa.heap.size:=blk_lt B6;refine(s_PathSteps pa _ _ (Bs RP) (by omega)).mono ?_;rintro e w3 ⟨va,rfl,oS,hzq⟩;replace B5:=Aa hzq B5;replace B6:=Aa hzq B6;replace RA:=Aj RA hzq;replace u_RA:=Ad u_RA hzq.size;replace RL:=Aj RL hzq;replace u_RL:=Ad u_RL hzq.size;replace RP:=Aj RP hzq;replace u_RP:=Ad u_RP hzq.size;replace s:=s.ext hzq;have hSl:=steps_len hp4 hx5
 obtain⟨a,ha9⟩:∃ l,l=pathSteps pa.parts:=⟨_,rfl⟩
 rw [← ha9] at oS hSl;have Ra:(Own.flat Step.f 3 Bu 79).own (rng waa.heap.size w3.heap.size) w3 va a:=Own.ofFr oS (Ae _);clear oS ha9;obtain⟨o_a,c_a,rfl,_⟩:=Bf (Own.rd _ Ra);have g_Ra:g<waa.heap.size:=by omega
 have u_Ra:w3.heap.size≤w3.heap.size:=by omega
 have lt_B5_Ra:b5a<waa.heap.size:=by omega
 have lt_B6_Ra:(b5a+1)<waa.heap.size:=by omega
 clear hzq hbs ltq_B5 ltq_B6;clear B5;clear B6;clear u_RA g_RA;clear RA;clear u_RL g_RL;clear RL;clear u_RP g_RP;clear RP
 go_wp2_with fail
 refine(s_l1Once g (2) _ _ _ s.c).mono ?_;rintro e w4 ⟨b1,rfl,hcq,hzq⟩;replace Ra:=Af Ra hzq (.inl g_Ra);replace u_Ra:=Ad u_Ra hzq.size;replace s:=s.draw hcq hzq;clear hzq hcq
 cases b1
 case true=>
  have OE:=Bj Step.f 3 w4.heap.size 79 w4 (Ae _)
  go_wp2_with (at_builtin;refine appS ES Bu Step.one rfl _ _ rfl a rfl OE rfl ((Own.rd _ Ra).ext ((Ab _).alloc _)) (by simp;omega) (by simp [maxLen];omega) (by simp) ?_)
  intro v' w9 ho hg';have hxq:Ext w4 w9:=((Ab _).alloc _).app hg' OE (Ae _);have hxe:=(hx0.trans (hn1.ofCur s.x hgl)).trans hxq
  go_wp2_with fail
  refine bodyPost_ret (by simp [results,Tryz.results11,go_sem];rfl) rfl ?_;exact⟨_,_,a,a,rfl,((Own.rd _ Ra).ext hxq),(Bb (hf:=Bu) ho),hxe⟩
 case false=>
  go_wp2_with fail
  have hbs:w1.heap.size≤w4.heap.size:=s.x.size;refine(s_l22Draw g _ _ _ s.c).mono ?_;rintro e w5 ⟨v1,v2,vp,tb,pb,m,rfl,TK,PD,hm1,hm2,RA,RL,RP,hcq,hzq⟩;replace Ra:=Af Ra hzq (.inl g_Ra);replace u_Ra:=Ad u_Ra hzq.size;replace s:=s.draw hcq hzq;obtain⟨o1,c1,rfl,_⟩:=Bf (Own.rd _ RA);obtain⟨o2,c2,rfl,_⟩:=Bf (Own.rd _ RL);obtain⟨op_,cp_,rfl,_⟩:=(Bs RP).shape;have hp4:pb.parts.length≤4:=by have h1:=PD.len;omega
  have hx5:∀ x∈pb.parts,x.hops.length≤5:=fun x hx=>(PD.part x hx).len.2
  have hps:=pth_size hp4 hx5;clear TK PD;have g_RA:g<w4.heap.size:=by omega
  have u_RA:m≤w5.heap.size:=by omega
  have g_RL:g<w4.heap.size:=by omega
  have u_RL:m≤w5.heap.size:=by omega
  have g_RP:g<m:=by omega
  have u_RP:w5.heap.size≤w5.heap.size:=by omega
  clear hzq hcq hbs 
  go_upto_region 7 with (fail)
  obtain⟨hxa,BB⟩:=ea2 w5 (.cells #[.slice o1 tb.ases.length c1,.slice o2 tb.links.length c2] 27) (.cells #[.slice op_ pb.parts.length cp_] 30)
  obtain⟨b5b,eb5b⟩:∃ b,b=w5.heap.size:=⟨_,rfl⟩
  have ltw_b5b:w1.heap.size≤b5b:=by rw [eb5b];exact s.x.size
  have hb_Ra_b5b:w3.heap.size≤b5b:=by rw [eb5b];exact u_Ra
  have hb_RA_b5b:m≤b5b:=by rw [eb5b];exact u_RA
  have hb_RL_b5b:m≤b5b:=by rw [eb5b];exact u_RL
  have hb_RP_b5b:w5.heap.size≤b5b:=by rw [eb5b];exact u_RP
  replace Ra:=Aj Ra hxa;replace u_Ra:=Ad u_Ra hxa.size;replace RA:=Aj RA hxa;replace u_RA:=Ad u_RA hxa.size;replace RL:=Aj RL hxa;replace u_RL:=Ad u_RL hxa.size;replace RP:=Aj RP hxa;replace u_RP:=Ad u_RP hxa.size;replace s:=s.ext hxa;have B5:=BB.1;have B6:=BB.2;rw [← eb5b] at B5 B6;rw [← eb5b];clear hxa BB;generalize ((w5.alloc (.cells #[.slice o1 tb.ases.length c1,.slice o2 tb.links.length c2] 27)).alloc (.cells #[.slice op_ pb.parts.length cp_] 30))=wab at B5 B6 Ra RA RL RP u_Ra u_RA u_RL u_RP s ⊢
  clear eb5b;have cb_B5:=blk2 B5;have cb_B6:=blk1 B6
  go_wp2_with fail
  clear cb_B5 cb_B6;have hbs:w1.heap.size≤wab.heap.size:=s.x.size;have ltq_B5:b5b<wab.heap.size:=blk_lt B5;have ltq_B6:(b5b+1)<wab.heap.size:=blk_lt B6;refine(s_PathSteps pb _ _ (Bs RP) (by omega)).mono ?_;rintro e w6 ⟨vb,rfl,oS,hzq⟩;replace B5:=Aa hzq B5;replace B6:=Aa hzq B6;replace Ra:=Aj Ra hzq;replace u_Ra:=Ad u_Ra hzq.size;replace RA:=Aj RA hzq;replace u_RA:=Ad u_RA hzq.size;replace RL:=Aj RL hzq;replace u_RL:=Ad u_RL hzq.size;replace RP:=Aj RP hzq;replace u_RP:=Ad u_RP hzq.size;replace s:=s.ext hzq;have hSl:=steps_len hp4 hx5
  obtain⟨b,hb9⟩:∃ l,l=pathSteps pb.parts:=⟨_,rfl⟩
  rw [← hb9] at oS hSl;have Rb:(Own.flat Step.f 3 Bu 79).own (rng wab.heap.size w6.heap.size) w6 vb b:=Own.ofFr oS (Ae _);clear oS hb9;obtain⟨o_b,c_b,rfl,_⟩:=Bf (Own.rd _ Rb);have g_Rb:g<wab.heap.size:=by omega
  have u_Rb:w6.heap.size≤w6.heap.size:=by omega
  have lt_B5_Rb:b5b<wab.heap.size:=by omega
  have lt_B6_Rb:(b5b+1)<wab.heap.size:=by omega
  clear hzq hbs ltq_B5 ltq_B6;clear B5;clear B6;clear u_RA g_RA;clear RA;clear u_RL g_RL;clear RL;clear u_RP g_RP;clear RP;have hxe:=hx0.trans (hn1.ofCur s.x hgl)
  go_wp2_with fail
  refine bodyPost_ret (by simp [results,Tryz.results11,go_sem];rfl) rfl ?_;exact⟨_,_,a,b,rfl,Own.rd _ Ra,Own.rd _ Rb,hxe⟩
theorem s_l5Any (g:Nat)  (cv:Value) (cd:List Int) (w:World) (hc:Cur g cv cd w) :
  Calls Tryz.prog 44 #[.pointer (some ⟨g,0,none⟩)] w fun e w'=>∃ (v1 v2:Value) (t:Topo),e=.returned (.agg #[v1,v2])∧t.ases.length≤8∧t.links.length≤65∧(Own.keep ASd.rep).own (rng w.heap.size w'.heap.size) w' v1 t.ases∧(Own.keep Lnk.rep).own (rng w.heap.size w'.heap.size) w' v2 t.links∧Cur g cv cd w'∧Chg (at1 g) w w':=by
 obtain⟨EL⟩:=elemLnk;obtain⟨hx0,HB⟩:=ea1 w (.cells #[.slice none 0 0,.slice none 0 0] 27);have hgw:=hc.lt
 have s:DSt g cv cd w (w.alloc (.cells #[.slice none 0 0,.slice none 0 0] 27)):=⟨hc.ext hx0,Ar hx0,hc⟩
 have B2:=HB;clear HB hx0
 go_enter Tryz.func44,Tryz.ntmps44
 go_wp2_with fail
 have hbs:w.heap.size≤(w.alloc (.cells #[.slice none 0 0,.slice none 0 0] 27)).heap.size:=s.x.size;have ltq_B2:w.heap.size<(w.alloc (.cells #[.slice none 0 0,.slice none 0 0] 27)).heap.size:=blk_lt B2;refine(s_l5Draw g _ _ _ s.c).mono ?_;rintro e w1 ⟨v1,v2,t,rfl,TK,oA,oL,hcq,hzq⟩;replace B2:=hzq.blkS B2 (by unfold at1;omega);replace s:=s.draw hcq hzq;have RA:(Own.flat ASd.f 3 ASd.flen 129).own (rng (w.alloc (.cells #[.slice none 0 0,.slice none 0 0] 27)).heap.size w1.heap.size) w1 v1 t.ases:=Own.ofFr oA (Ae _);have RL:(Own.flat Lnk.f 5 Lnk.flen 127).own (rng (w.alloc (.cells #[.slice none 0 0,.slice none 0 0] 27)).heap.size w1.heap.size) w1 v2 t.links:=Own.ofFr oL (Ae _);clear oA oL;have hn1:=TK.n1;have hn8:=TK.n8;have hn64:=TK.few;obtain⟨ga,ca,rfl,hga0,hga1⟩:=(Own.toF RA).some_shape (by omega);obtain⟨o2,c2,rfl,_⟩:=Bf (Own.rd _ RL);have g_RA:g<(w.alloc (.cells #[.slice none 0 0,.slice none 0 0] 27)).heap.size:=by omega
 have u_RA:w1.heap.size≤w1.heap.size:=by omega
 have lt_B2_RA:w.heap.size<(w.alloc (.cells #[.slice none 0 0,.slice none 0 0] 27)).heap.size:=by omega
 have g_RL:g<(w.alloc (.cells #[.slice none 0 0,.slice none 0 0] 27)).heap.size:=by omega
 have u_RL:w1.heap.size≤w1.heap.size:=by omega
 have lt_B2_RL:w.heap.size<(w.alloc (.cells #[.slice none 0 0,.slice none 0 0] 27)).heap.size:=by omega
 clear hzq hcq hbs ltq_B2;have hgga:g<ga:=Ak g_RA hga0;have cb_B2:=blk2 B2
 go_upto_region 2 with (fail)
 clear cb_B2;obtain⟨hxa,BB⟩:=ea1 w1 (.cells #[.slice (some ⟨ga,0,none⟩) t.ases.length ca,.slice o2 t.links.length c2] 27)
 obtain⟨b4,eb4⟩:∃ b,b=w1.heap.size:=⟨_,rfl⟩
 have ltw_b4:w.heap.size≤b4:=by rw [eb4];exact s.x.size
 have lt_B2_b4:w.heap.size<b4:=by rw [eb4];exact blk_lt B2
 have hb_RA_b4:w1.heap.size≤b4:=by rw [eb4];exact u_RA
 have hb_RL_b4:w1.heap.size≤b4:=by rw [eb4];exact u_RL
 replace B2:=Aa hxa B2;replace RA:=Aj RA hxa;replace u_RA:=Ad u_RA hxa.size;replace RL:=Aj RL hxa;replace u_RL:=Ad u_RL hxa.size;replace s:=s.ext hxa;have B4:=BB;rw [← eb4] at B4;rw [← eb4];clear hxa BB;generalize (w1.alloc (.cells #[.slice (some ⟨ga,0,none⟩) t.ases.length ca,.slice o2 t.links.length c2] 27))=wa at B2 B4 RA RL u_RA u_RL s ⊢
 clear eb4;have cb_B2:=blk2 B2;have cb_B4:=blk2 B4
 go_wp2_with fail
 clear cb_B2 cb_B4;refine(s_l1Below g (t.ases.length:Int) _ _ _ s.c).mono ?_;rintro e w2 ⟨k,rfl,hk0,hk1,hcq,hzq⟩;replace B2:=hzq.blkS B2 (by unfold at1;omega);replace B4:=hzq.blkS B4 (by unfold at1;omega);replace RA:=Af RA hzq (.inl g_RA);replace u_RA:=Ad u_RA hzq.size;replace RL:=Af RL hzq (.inl g_RL);replace u_RL:=Ad u_RL hzq.size;replace s:=s.draw hcq hzq;clear hzq hcq;have hk2:k<t.ases.length:=by omega
 obtain⟨kk,rfl⟩:=Int.eq_ofNat_of_zero_le hk0;have hkk:kk<t.ases.length:=by omega
 clear hk1;have cb_B2:=blk2 B2;have cb_B4:=blk2 B4
 go_wp2_with fail
 clear cb_B2 cb_B4;refine(s_l1Below g (14) _ _ _ s.c).mono ?_;rintro e w3 ⟨q,rfl,hq0,hq1,hcq,hzq⟩;replace B2:=hzq.blkS B2 (by unfold at1;omega);replace B4:=hzq.blkS B4 (by unfold at1;omega);replace RA:=Af RA hzq (.inl g_RA);replace u_RA:=Ad u_RA hzq.size;replace RL:=Af RL hzq (.inl g_RL);replace u_RL:=Ad u_RL hzq.size;replace s:=s.draw hcq hzq;clear hzq hcq;have cb_B2:=blk2 B2;have cb_B4:=blk2 B4
 go_upto_block 0 with fail
 clear cb_B2 cb_B4
 go_cut [] (fun  wx=>∃ (al:List ASd) (lk:List Lnk) (va:Value) (vk:Value) (hiA:Nat) (hiL:Nat),(al.length≤8)∧(lk.length≤65)∧wx.heap[w.heap.size]?=some (.cells #[.slice none 0 0,.slice none 0 0] 27 (0,0))∧wx.heap[b4]?=some (.cells #[va,vk] 27 (0,0))∧((Own.keep ASd.rep).own (rng (w.alloc (.cells #[.slice none 0 0,.slice none 0 0] 27)).heap.size hiA) wx va al∧hiA≤wx.heap.size)∧((Own.keep Lnk.rep).own (rng (w.alloc (.cells #[.slice none 0 0,.slice none 0 0] 27)).heap.size hiL) wx vk lk∧hiL≤wx.heap.size)∧Cur g cv cd wx∧Chg (at1 g) w wx)
 case first=>
  by_cases q0:q=0
  ·
   subst q0;have cb_B2:=blk2 B2;have cb_B4:=blk2 B4
   go_upto_region 5 with (fail)
   clear cb_B2 cb_B4;have h00:(0:Int)<(t.ases.length:Int):=by omega
   have h01:0<t.ases.length:=by omega
   obtain⟨bq,offq,hbo,hc0⟩:=ASd.at (Own.rd _ RA) 0 (by omega)
   cases hbo
   simp only [Nat.zero_add,Nat.zero_mul,Nat.add_zero] at hc0
   obtain⟨x0,x09⟩:∃ x,x=t.ases[0]:=⟨_,rfl⟩
   rw [← x09] at hc0;clear x09;refine Bl (at1 g) [([0,1,2,3,4,5,6,7,8],9),([],10)] [11,12] [13] (by kernel_rfl) (by kernel_rfl) (by kernel_rfl) ?_;have ch_B4:=blk2 B4;have q0:=Cj (S:=at1 g) ch_B4 (by first | omega | (unfold at1;omega) | (simp only;omega));clear ch_B4;have q2:=ChgSW.c3 (S:=at1 g) hc0 (by first | omega | (unfold at1;omega) | (simp only;omega));simp only [wpBlocksX,pickOps,PK];have hch:Chg (at1 g) w3 w3.drew:=Ar (Ab w3).drew;replace B2:=Aa ((Ab w3).drew) B2;replace B4:=Aa ((Ab w3).drew) B4;replace RA:=Aj RA ((Ab w3).drew);replace u_RA:=Ad u_RA ((Ab w3).drew).size;replace RL:=Aj RL ((Ab w3).drew);replace u_RL:=Ad u_RL ((Ab w3).drew).size;replace s:=s.ext ((Ab w3).drew)
   obtain⟨wd,hnw⟩:∃ wn,wn=w3.drew:=⟨_,rfl⟩
   rw [← hnw] at B2 B4 RA RL u_RA u_RL s hch ⊢
   clear hnw hc0
   repeat (first | go_big_quiet_step (fail) | quiet_step (fail))
   refine wpQuiet_nil ?_
   go_wp2_with fail
   refine⟨⟨⟨_,hch.trans (Ar ((Ab _).alloc _))⟩,rfl⟩,?_⟩
   repeat (first | go_big_quiet_step (fail) | quiet_step (fail))
   refine wpQuiet_nil ?_
   go_wp2_with fail
   refine(s_l1Int g [0,-1,2147483647,x0.key] _ _ wd s.c (by simp) (by simp)).mono ?_;rintro e w4 ⟨z,rfl,hzm,hcq,hzq⟩;replace B2:=hzq.blkS B2 (by unfold at1;omega);replace B4:=hzq.blkS B4 (by unfold at1;omega);replace RA:=Af RA hzq (.inl g_RA);replace u_RA:=Ad u_RA hzq.size;replace RL:=Af RL hzq (.inl g_RL);replace u_RL:=Ad u_RL hzq.size;replace s:=s.draw hcq hzq;replace hch:=hch.trans (hzq.mono (fun b h=>h));clear hzm;clear hzq hcq
   go_wp2_with fail
   refine⟨⟨⟨_,hch⟩,rfl⟩,?_⟩
   repeat (first | go_big_quiet_step (fail) | quiet_step (fail))
   refine wpQuiet_nil ?_;obtain⟨bq,offq,hbo,hcK⟩:=ASd.at (Own.rd _ RA) kk hkk
   cases hbo
   simp only [Nat.zero_add] at hcK
   obtain⟨xk,xk9⟩:∃ x,x=t.ases[kk]:=⟨_,rfl⟩
   rw [← xk9] at hcK
   obtain⟨wS,hwS⟩:∃ wS,wS=w4.setCell ⟨ga,kk * 3+2,none⟩ (.int .i64 z):=⟨_,rfl⟩
   obtain⟨RAn,_⟩:=OwnF.put1 ASd.flen (Own.toF RA) kk hkk 2 (by decide) (.int .i64 z) { t.ases[kk] with key:=z } rfl;have hcS:Chg (at1 ga) w4 (w4.setCell ⟨ga,kk * 3+2,none⟩ (.int .i64 z)):=Bw (S:=at1 ga) (p:=⟨ga,kk * 3+2,none⟩) (Bq _ _) rfl _;have fS:=(Own.toF RA).free (kk * 3+2);have RLn:(Own.keep Lnk.rep).own (rng (w.alloc (.cells #[.slice none 0 0,.slice none 0 0] 27)).heap.size w1.heap.size) (w4.setCell ⟨ga,kk * 3+2,none⟩ (.int .i64 z)) (.slice o2 t.links.length c2) t.links:=Be (O:=Own.flat Lnk.f 5 Lnk.flen 127) ⟨RL.1.chg hcS (fun k hk e=>OwnF.apartT (Own.toF RA) (Own.toF RL) (by decide) (b:=ga) rfl (by have e1:k=ga:=e;rw [← e1];exact hk)),RL.2⟩;rw [← hwS] at RAn hcS RLn
   try simp only [Nat.add_zero] at hwS fS
   have HWS:=Ac hwS;clear hwS xk9
   go_wp2_with fail
   rw [← HWS.out];clear HWS fS hcK RA RL;have RA:(Own.keep ASd.rep).own (rng (w.alloc (.cells #[.slice none 0 0,.slice none 0 0] 27)).heap.size wS.heap.size) wS (.slice (some ⟨ga,0,none⟩) t.ases.length ca) (t.ases.set kk { t.ases[kk] with key:=z }):=Be (O:=Own.flat ASd.f 3 ASd.flen 129) (Own.ofFr RAn (Ae _));have RL:=RLn;clear RAn RLn;replace u_RA:=Ae wS.heap.size;replace u_RL:=Ad u_RL hcS.size;replace B2:=hcS.blkS B2 (by unfold at1;omega);replace B4:=hcS.blkS B4 (by unfold at1;omega);replace s:=s.put hcS (fun i hi=>by have h1:i=ga:=hi;omega);clear hcS;refine NoPanic.normal ?_;clear hch q0 q2
   go_wp2_with fail
   go_meet
   exact⟨(t.ases.set kk { t.ases[kk] with key:=z }),t.links,_,_,_,_,by simp;omega,by omega,B2,B4,⟨RA,u_RA⟩,⟨RL,u_RL⟩,s.c,s.x⟩
  have q0f:(q == 0)=false:=by rw [beq_eq_false_iff_ne];exact q0
  by_cases q1:q=1
  ·
   subst q1;have cb_B2:=blk2 B2;have cb_B4:=blk2 B4
   go_upto_region 7 with (fail)
   clear cb_B2 cb_B4;refine Bl (at1 g) [([0,1,2,3],4),([],5)] [6,7] [8] (by kernel_rfl) (by kernel_rfl) (by kernel_rfl) ?_;have ch_B4:=blk2 B4;have q0:=Cj (S:=at1 g) ch_B4 (by first | omega | (unfold at1;omega) | (simp only;omega));clear ch_B4;simp only [wpBlocksX,pickOps,PK];have hch:Chg (at1 g) w3 w3.drew:=Ar (Ab w3).drew;replace B2:=Aa ((Ab w3).drew) B2;replace B4:=Aa ((Ab w3).drew) B4;replace RA:=Aj RA ((Ab w3).drew);replace u_RA:=Ad u_RA ((Ab w3).drew).size;replace RL:=Aj RL ((Ab w3).drew);replace u_RL:=Ad u_RL ((Ab w3).drew).size;replace s:=s.ext ((Ab w3).drew)
   obtain⟨wd,hnw⟩:∃ wn,wn=w3.drew:=⟨_,rfl⟩
   rw [← hnw] at B2 B4 RA RL u_RA u_RL s hch ⊢
   clear hnw
   repeat (first | go_big_quiet_step (fail) | quiet_step (fail))
   refine wpQuiet_nil ?_
   go_wp2_with fail
   refine⟨⟨⟨_,hch.trans (Ar ((Ab _).alloc _))⟩,rfl⟩,?_⟩
   repeat (first | go_big_quiet_step (fail) | quiet_step (fail))
   refine wpQuiet_nil ?_
   go_wp2_with fail
   refine(s_l1Int g [-1,3,2] _ _ wd s.c (by simp) (by simp)).mono ?_;rintro e w4 ⟨z,rfl,hzm,hcq,hzq⟩;replace B2:=hzq.blkS B2 (by unfold at1;omega);replace B4:=hzq.blkS B4 (by unfold at1;omega);replace RA:=Af RA hzq (.inl g_RA);replace u_RA:=Ad u_RA hzq.size;replace RL:=Af RL hzq (.inl g_RL);replace u_RL:=Ad u_RL hzq.size;replace s:=s.draw hcq hzq;replace hch:=hch.trans (hzq.mono (fun b h=>h));clear hzm;clear hzq hcq
   go_wp2_with fail
   refine⟨⟨⟨_,hch⟩,rfl⟩,?_⟩
   repeat (first | go_big_quiet_step (fail) | quiet_step (fail))
   refine wpQuiet_nil ?_;obtain⟨bq,offq,hbo,hcK⟩:=ASd.at (Own.rd _ RA) kk hkk
   cases hbo
   simp only [Nat.zero_add] at hcK
   obtain⟨xk,xk9⟩:∃ x,x=t.ases[kk]:=⟨_,rfl⟩
   rw [← xk9] at hcK
   obtain⟨wS,hwS⟩:∃ wS,wS=w4.setCell ⟨ga,kk * 3+0,none⟩ (.int .i64 z):=⟨_,rfl⟩
   obtain⟨RAn,_⟩:=OwnF.put1 ASd.flen (Own.toF RA) kk hkk 0 (by decide) (.int .i64 z) { t.ases[kk] with isd:=z } rfl;have hcS:Chg (at1 ga) w4 (w4.setCell ⟨ga,kk * 3+0,none⟩ (.int .i64 z)):=Bw (S:=at1 ga) (p:=⟨ga,kk * 3+0,none⟩) (Bq _ _) rfl _;have fS:=(Own.toF RA).free (kk * 3+0);have RLn:(Own.keep Lnk.rep).own (rng (w.alloc (.cells #[.slice none 0 0,.slice none 0 0] 27)).heap.size w1.heap.size) (w4.setCell ⟨ga,kk * 3+0,none⟩ (.int .i64 z)) (.slice o2 t.links.length c2) t.links:=Be (O:=Own.flat Lnk.f 5 Lnk.flen 127) ⟨RL.1.chg hcS (fun k hk e=>OwnF.apartT (Own.toF RA) (Own.toF RL) (by decide) (b:=ga) rfl (by have e1:k=ga:=e;rw [← e1];exact hk)),RL.2⟩;rw [← hwS] at RAn hcS RLn
   try simp only [Nat.add_zero] at hwS fS
   have HWS:=Ac hwS;clear hwS xk9
   go_wp2_with fail
   rw [← HWS.out];clear HWS fS hcK RA RL;have RA:(Own.keep ASd.rep).own (rng (w.alloc (.cells #[.slice none 0 0,.slice none 0 0] 27)).heap.size wS.heap.size) wS (.slice (some ⟨ga,0,none⟩) t.ases.length ca) (t.ases.set kk { t.ases[kk] with isd:=z }):=Be (O:=Own.flat ASd.f 3 ASd.flen 129) (Own.ofFr RAn (Ae _));have RL:=RLn;clear RAn RLn;replace u_RA:=Ae wS.heap.size;replace u_RL:=Ad u_RL hcS.size;replace B2:=hcS.blkS B2 (by unfold at1;omega);replace B4:=hcS.blkS B4 (by unfold at1;omega);replace s:=s.put hcS (fun i hi=>by have h1:i=ga:=hi;omega);clear hcS;refine NoPanic.normal ?_;clear hch q0
   go_wp2_with fail
   go_meet
   exact⟨(t.ases.set kk { t.ases[kk] with isd:=z }),t.links,_,_,_,_,by simp;omega,by omega,B2,B4,⟨RA,u_RA⟩,⟨RL,u_RL⟩,s.c,s.x⟩
  have q1f:(q == 1)=false:=by rw [beq_eq_false_iff_ne];exact q1
  by_cases q2:q=2
  ·
   subst q2;have cb_B2:=blk2 B2;have cb_B4:=blk2 B4
   go_upto_region 9 with (fail)
   clear cb_B2 cb_B4;obtain⟨bq,offq,hbo,hc0⟩:=ASd.at (Own.rd _ RA) kk hkk
   cases hbo
   simp only [Nat.zero_add] at hc0
   obtain⟨x0,x09⟩:∃ x,x=t.ases[kk]:=⟨_,rfl⟩
   rw [← x09] at hc0;refine Bl (at1 g) [] [0,1,2,3,4,5,6,7,8,9,10,11] [12] (by kernel_rfl) (by kernel_rfl) (by kernel_rfl) ?_;have ch_B4:=blk2 B4;have q0:=Cj (S:=at1 g) ch_B4 (by first | omega | (unfold at1;omega) | (simp only;omega));clear ch_B4;have q2:=ChgSW.c3 (S:=at1 g) hc0 (by first | omega | (unfold at1;omega) | (simp only;omega));simp only [wpBlocksX,pickOps,PK];have hch:Chg (at1 g) w3 w3.drew:=Ar (Ab w3).drew;replace B2:=Aa ((Ab w3).drew) B2;replace B4:=Aa ((Ab w3).drew) B4;replace RA:=Aj RA ((Ab w3).drew);replace u_RA:=Ad u_RA ((Ab w3).drew).size;replace RL:=Aj RL ((Ab w3).drew);replace u_RL:=Ad u_RL ((Ab w3).drew).size;replace s:=s.ext ((Ab w3).drew)
   obtain⟨wd,hnw⟩:∃ wn,wn=w3.drew:=⟨_,rfl⟩
   rw [← hnw] at B2 B4 RA RL u_RA u_RL s hch ⊢
   clear hnw hc0
   repeat (first | go_big_quiet_step (fail) | quiet_step (fail))
   refine wpQuiet_nil ?_;subst x09;obtain⟨bq,offq,hbo,hcK⟩:=ASd.at (Own.rd _ RA) kk hkk
   cases hbo
   simp only [Nat.zero_add] at hcK
   obtain⟨xk,xk9⟩:∃ x,x=t.ases[kk]:=⟨_,rfl⟩
   rw [← xk9] at hcK
   obtain⟨wS,hwS⟩:∃ wS,wS=wd.setCell ⟨ga,kk * 3+1,none⟩ (.bool (!t.ases[kk].core)):=⟨_,rfl⟩
   obtain⟨RAn,_⟩:=OwnF.put1 ASd.flen (Own.toF RA) kk hkk 1 (by decide) (.bool (!t.ases[kk].core)) { t.ases[kk] with core:=!t.ases[kk].core } rfl;have hcS:Chg (at1 ga) wd (wd.setCell ⟨ga,kk * 3+1,none⟩ (.bool (!t.ases[kk].core))):=Bw (S:=at1 ga) (p:=⟨ga,kk * 3+1,none⟩) (Bq _ _) rfl _;have fS:=(Own.toF RA).free (kk * 3+1);have RLn:(Own.keep Lnk.rep).own (rng (w.alloc (.cells #[.slice none 0 0,.slice none 0 0] 27)).heap.size w1.heap.size) (wd.setCell ⟨ga,kk * 3+1,none⟩ (.bool (!t.ases[kk].core))) (.slice o2 t.links.length c2) t.links:=Be (O:=Own.flat Lnk.f 5 Lnk.flen 127) ⟨RL.1.chg hcS (fun k hk e=>OwnF.apartT (Own.toF RA) (Own.toF RL) (by decide) (b:=ga) rfl (by have e1:k=ga:=e;rw [← e1];exact hk)),RL.2⟩;rw [← hwS] at RAn hcS RLn
   try simp only [Nat.add_zero] at hwS fS
   have HWS:=Ac hwS;clear hwS xk9
   go_wp2_with fail
   rw [← HWS.out];clear HWS fS hcK RA RL;have RA:(Own.keep ASd.rep).own (rng (w.alloc (.cells #[.slice none 0 0,.slice none 0 0] 27)).heap.size wS.heap.size) wS (.slice (some ⟨ga,0,none⟩) t.ases.length ca) (t.ases.set kk { t.ases[kk] with core:=!t.ases[kk].core }):=Be (O:=Own.flat ASd.f 3 ASd.flen 129) (Own.ofFr RAn (Ae _));have RL:=RLn;clear RAn RLn;replace u_RA:=Ae wS.heap.size;replace u_RL:=Ad u_RL hcS.size;replace B2:=hcS.blkS B2 (by unfold at1;omega);replace B4:=hcS.blkS B4 (by unfold at1;omega);replace s:=s.put hcS (fun i hi=>by have h1:i=ga:=hi;omega);clear hcS;refine NoPanic.normal ?_;clear hch q0 q2
   go_wp2_with fail
   go_meet
   exact⟨(t.ases.set kk { t.ases[kk] with core:=!t.ases[kk].core }),t.links,_,_,_,_,by simp;omega,by omega,B2,B4,⟨RA,u_RA⟩,⟨RL,u_RL⟩,s.c,s.x⟩
  have q2f:(q == 2)=false:=by rw [beq_eq_false_iff_ne];exact q2
  by_cases q3:q=3
  ·
   subst q3;have hl0:t.links.length=0∨0<t.links.length:=by omega
   rcases hl0 with hl0 | hl0
   ·
    have hl1:¬ (0:Int)<(t.links.length:Int):=by omega
    replace RA:(Own.keep ASd.rep).own (rng (w.alloc (.cells #[.slice none 0 0,.slice none 0 0] 27)).heap.size w1.heap.size) w3 (.slice (some ⟨ga,0,none⟩) t.ases.length ca) t.ases:=Be RA;replace RL:(Own.keep Lnk.rep).own (rng (w.alloc (.cells #[.slice none 0 0,.slice none 0 0] 27)).heap.size w1.heap.size) w3 (.slice o2 t.links.length c2) t.links:=Be RL;have cb_B2:=blk2 B2;have cb_B4:=blk2 B4
    go_wp2_with fail
    clear cb_B2 cb_B4
    go_meet
    exact⟨t.ases,t.links,_,_,_,_,hn8,by omega,B2,B4,⟨RA,u_RA⟩,⟨RL,u_RL⟩,s.c,s.x⟩
   have hl1:(0:Int)<(t.links.length:Int):=by omega
   have cb_B2:=blk2 B2;have cb_B4:=blk2 B4
   go_upto_region 12 with (fail)
   clear cb_B2 cb_B4;have RL0:=Own.rd _ RL;have gl0:∀ b,(some ⟨b,0,none⟩:Option Addr)=o2→g<b:=fun b e=>Ak g_RL (RL.2 b (by rw [← e];rfl)).1
   refine Bl (at1 g) [([0,1,2,3,4,5,6,7],8),([9,10],11)] [] [12,13,14] (by kernel_rfl) (by kernel_rfl) (by kernel_rfl) ?_;have ch_B4:=blk2 B4;have q0:=Cj (S:=at1 g) ch_B4 (by first | omega | (unfold at1;omega) | (simp only;omega));clear ch_B4;simp only [wpBlocksX,pickOps,PK];have hch:Chg (at1 g) w3 w3.drew:=Ar (Ab w3).drew;replace B2:=Aa ((Ab w3).drew) B2;replace B4:=Aa ((Ab w3).drew) B4;replace RA:=Aj RA ((Ab w3).drew);replace u_RA:=Ad u_RA ((Ab w3).drew).size;replace RL:=Aj RL ((Ab w3).drew);replace u_RL:=Ad u_RL ((Ab w3).drew).size;replace s:=s.ext ((Ab w3).drew)
   obtain⟨wd,hnw⟩:∃ wn,wn=w3.drew:=⟨_,rfl⟩
   rw [← hnw] at B2 B4 RA RL u_RA u_RL s hch ⊢
   clear hnw
   repeat (first | go_big_quiet_step (fail) | quiet_step (fail))
   refine wpQuiet_nil ?_
   go_wp2_with fail
   refine(s_l1Below g (t.links.length:Int) _ _ _ s.c).mono ?_;rintro e w4 ⟨i,rfl,hi0,hi1,hcq,hzq⟩;replace B2:=hzq.blkS B2 (by unfold at1;omega);replace B4:=hzq.blkS B4 (by unfold at1;omega);replace RA:=Af RA hzq (.inl g_RA);replace u_RA:=Ad u_RA hzq.size;replace RL:=Af RL hzq (.inl g_RL);replace u_RL:=Ad u_RL hzq.size;replace s:=s.draw hcq hzq;replace hch:=hch.trans (hzq.mono (fun b h=>h));have hi2:i<t.links.length:=by omega
   obtain⟨ii,rfl⟩:=Int.eq_ofNat_of_zero_le hi0;have hii:ii<t.links.length:=by omega
   clear hi1;obtain⟨gl,ol,hbo,hcl⟩:=Lnk.at RL0 ii hii;obtain⟨gl2,cl2,hsh,hgl0,hgl1⟩:=(Own.toF RL).some_shape hl0
   cases hsh
   cases hbo
   have hggl:g<gl:=Ak g_RL hgl0;simp only [Nat.zero_add] at hcl
   obtain⟨z,z9⟩:∃ x,x=t.links[ii]:=⟨_,rfl⟩
   rw [← z9] at hcl;have q2:=ChgSW.c5 (S:=at1 g) hcl (by first | omega | (unfold at1;omega) | (simp only;omega));clear hcl z9 gl0 RL0;clear hzq hcq
   go_wp2_with fail
   refine⟨⟨⟨_,hch⟩,rfl⟩,?_⟩
   repeat (first | go_big_quiet_step (fail) | quiet_step (fail))
   refine wpQuiet_nil ?_
   go_wp2_with fail
   refine⟨⟨⟨_,hch.trans (Ar ((Ab _).alloc _))⟩,rfl⟩,?_⟩
   repeat (first | go_big_quiet_step (fail) | quiet_step (fail))
   refine wpQuiet_nil ?_;have hxB:Ext w4 (w4.alloc (.cells #[.int .i64 z.a,.int .i64 z.ai,.int .i64 z.b,.int .i64 z.bi,.int .i64 z.kind] 127)):=(Ab _).alloc _;replace B2:=Aa hxB B2;replace B4:=Aa hxB B4;replace RA:=Aj RA hxB;replace u_RA:=Ad u_RA hxB.size;replace RL:=Aj RL hxB;replace u_RL:=Ad u_RL hxB.size;replace s:=s.ext hxB;have hsB:(w4.alloc (.cells #[.int .i64 z.a,.int .i64 z.ai,.int .i64 z.b,.int .i64 z.bi,.int .i64 z.kind] 127)).heap.size=w4.heap.size+1:=by simp
   have hwz:(w.alloc (.cells #[.slice none 0 0,.slice none 0 0] 27)).heap.size≤w4.heap.size:=by omega
   refine app1 EL Lnk.flen Lnk.one rfl _ _ rfl z rfl (Own.toF RL) rfl (by exact Au (Lnk.f z) (blk_new _ _)) (by omega) (by unfold maxLen;omega) (by omega) ?_;intro v' w' ho' hg';have hxg:Chg (fun b=>((.slice (some ⟨gl,0,none⟩) t.links.length c2:Value)).ownBlock=some b) (w4.alloc (.cells #[.int .i64 z.a,.int .i64 z.ai,.int .i64 z.b,.int .i64 z.bi,.int .i64 z.kind] 127)) w':=Bn hg' (fun k hk=>hk);have hgx:∀ b,((.slice (some ⟨gl,0,none⟩) t.links.length c2:Value)).ownBlock=some b→(w.alloc (.cells #[.slice none 0 0,.slice none 0 0] 27)).heap.size≤b∧b<w1.heap.size:=fun b hb=>RL.2 b hb
   have RAn:(Own.keep ASd.rep).own (rng (w.alloc (.cells #[.slice none 0 0,.slice none 0 0] 27)).heap.size w1.heap.size) w' (.slice (some ⟨ga,0,none⟩) t.ases.length ca) t.ases:=Be (O:=Own.flat ASd.f 3 ASd.flen 129) ⟨RA.1.chg hxg (fun k hk e=>OwnF.apartT (Own.toF RA) (Own.toF RL) (by decide) hk e),RA.2⟩;clear hg' RA RL;have RA:=RAn;clear RAn;replace u_RA:=Ad u_RA hxg.size;have hb4w:b4<(w4.alloc (.cells #[.int .i64 z.a,.int .i64 z.ai,.int .i64 z.b,.int .i64 z.bi,.int .i64 z.kind] 127)).heap.size:=blk_lt B4;replace B2:=hxg.blkS B2 (fun hk=>by have h1:=hgx _ hk;omega);replace B4:=hxg.blkS B4 (fun hk=>by have h1:=hgx _ hk;omega);replace s:=s.put hxg (fun i hi=>by have h1:=hgx i hi;omega);have RL:(Own.keep Lnk.rep).own (fun q=>(w.alloc (.cells #[.slice none 0 0,.slice none 0 0] 27)).heap.size≤q∧q<w'.heap.size∧q≠b4) w' v' (t.links ++ [z]):=Be (O:=Own.flat Lnk.f 5 Lnk.flen 127) ⟨ho'.to0,fun k hk=>⟨(ho'.block k hk).1,(ho'.block k hk).2,fun e=>OwnF.ne ho' B4 (by decide) (by rw [← e];exact hk)⟩⟩;clear hxg hgx hxB hsB hwz hb4w ho' u_RL g_RL
   obtain⟨ln,hln⟩:∃ ln,ln=t.links ++ [z]:=⟨_,rfl⟩
   rw [← hln] at RL;have hnl:ln.length≤65:=by rw [hln];simp;omega
   clear hln;obtain⟨o',c',rfl,_⟩:=Bf (Own.rd _ RL);have HNL:=Ac hnl;clear hnl;obtain⟨wpn,hwn,hbn,hcn⟩:=one_set B4 1 (.slice o' ln.length c');simp only [List.setIfInBounds_toArray,List.set_cons_succ,List.set_cons_zero] at hbn;have HWn:=Ac hwn;clear hwn;have ff0:=fr2 B4;have cb:=blk2 B4
   go_wp2_with fail
   rw [← HWn.out];clear HWn cb ff0;replace RL:(Own.keep Lnk.rep).own (rng (w.alloc (.cells #[.slice none 0 0,.slice none 0 0] 27)).heap.size wpn.heap.size) wpn (.slice o' ln.length c') ln:=Own.mono _ (Own.kept _ RL hcn (fun b hb e=>hb.2.2 e)) (fun b hb=>⟨hb.1,Ak hb.2.1 hcn.size⟩);have u_RL:=Ae wpn.heap.size;replace RA:=Af RA hcn (by omega);replace u_RA:=Ad u_RA hcn.size;replace B2:=hcn.blkS B2 (by unfold at1;omega);replace B4:=hbn;clear hbn;replace s:=s.put hcn (fun i hi=>by have h1:i=b4:=hi;omega)
   try clear hcn
   refine NoPanic.normal ?_;clear hch q0 q2
   go_wp2_with fail
   go_meet
   exact⟨t.ases,ln,_,_,_,_,hn8,HNL.out,B2,B4,⟨RA,u_RA⟩,⟨RL,u_RL⟩,s.c,s.x⟩
  have q3f:(q == 3)=false:=by rw [beq_eq_false_iff_ne];exact q3
  by_cases q4:q=4
  ·
   subst q4;have cb_B2:=blk2 B2;have cb_B4:=blk2 B4
   go_upto_region 14 with (fail)
   clear cb_B2 cb_B4;refine Bl (at1 g) [([0,1,2,5,7],3),([4],6),([],8),([9],10)] [] [11,12,13] (by kernel_rfl) (by kernel_rfl) (by kernel_rfl) ?_;have ch_B4:=blk2 B4;have q0:=Cj (S:=at1 g) ch_B4 (by first | omega | (unfold at1;omega) | (simp only;omega));clear ch_B4;simp only [wpBlocksX,pickOps,PK];have hch:Chg (at1 g) w3 w3.drew:=Ar (Ab w3).drew;replace B2:=Aa ((Ab w3).drew) B2;replace B4:=Aa ((Ab w3).drew) B4;replace RA:=Aj RA ((Ab w3).drew);replace u_RA:=Ad u_RA ((Ab w3).drew).size;replace RL:=Aj RL ((Ab w3).drew);replace u_RL:=Ad u_RL ((Ab w3).drew).size;replace s:=s.ext ((Ab w3).drew)
   obtain⟨wd,hnw⟩:∃ wn,wn=w3.drew:=⟨_,rfl⟩
   rw [← hnw] at B2 B4 RA RL u_RA u_RL s hch ⊢
   clear hnw
   repeat (first | go_big_quiet_step (fail) | quiet_step (fail))
   refine wpQuiet_nil ?_
   go_wp2_with fail
   refine(s_l1Below g (9) _ _ _ s.c).mono ?_;rintro e w4 ⟨z1,rfl,hz10,hz11,hcq,hzq⟩;replace B2:=hzq.blkS B2 (by unfold at1;omega);replace B4:=hzq.blkS B4 (by unfold at1;omega);replace RA:=Af RA hzq (.inl g_RA);replace u_RA:=Ad u_RA hzq.size;replace RL:=Af RL hzq (.inl g_RL);replace u_RL:=Ad u_RL hzq.size;replace s:=s.draw hcq hzq;replace hch:=hch.trans (hzq.mono (fun b h=>h));clear hzq hcq
   go_wp2_with fail
   refine⟨⟨⟨_,hch⟩,rfl⟩,?_⟩
   repeat (first | go_big_quiet_step (fail) | quiet_step (fail))
   refine wpQuiet_nil ?_
   go_wp2_with fail
   refine(s_l1Below g (9) _ _ _ s.c).mono ?_;rintro e w5 ⟨z2,rfl,hz20,hz21,hcq,hzq⟩;replace B2:=hzq.blkS B2 (by unfold at1;omega);replace B4:=hzq.blkS B4 (by unfold at1;omega);replace RA:=Af RA hzq (.inl g_RA);replace u_RA:=Ad u_RA hzq.size;replace RL:=Af RL hzq (.inl g_RL);replace u_RL:=Ad u_RL hzq.size;replace s:=s.draw hcq hzq;replace hch:=hch.trans (hzq.mono (fun b h=>h));clear hzq hcq
   go_wp2_with fail
   refine⟨⟨⟨_,hch⟩,rfl⟩,?_⟩
   repeat (first | go_big_quiet_step (fail) | quiet_step (fail))
   refine wpQuiet_nil ?_
   go_wp2_with fail
   refine(s_l1Below g (5) _ _ _ s.c).mono ?_;rintro e w6 ⟨z3,rfl,hz30,hz31,hcq,hzq⟩;replace B2:=hzq.blkS B2 (by unfold at1;omega);replace B4:=hzq.blkS B4 (by unfold at1;omega);replace RA:=Af RA hzq (.inl g_RA);replace u_RA:=Ad u_RA hzq.size;replace RL:=Af RL hzq (.inl g_RL);replace u_RL:=Ad u_RL hzq.size;replace s:=s.draw hcq hzq;replace hch:=hch.trans (hzq.mono (fun b h=>h));clear hzq hcq
   go_wp2_with fail
   refine⟨⟨⟨_,hch⟩,rfl⟩,?_⟩
   repeat (first | go_big_quiet_step (fail) | quiet_step (fail))
   refine wpQuiet_nil ?_
   go_wp2_with fail
   refine⟨⟨⟨_,hch.trans (Ar ((Ab _).alloc _))⟩,rfl⟩,?_⟩
   repeat (first | go_big_quiet_step (fail) | quiet_step (fail))
   refine wpQuiet_nil ?_;have hxB:Ext w6 (w6.alloc (.cells #[.int .i64 (z1 - 1),.int .i64 6,.int .i64 z2,.int .i64 6,.int .i64 z3] 127)):=(Ab _).alloc _;replace B2:=Aa hxB B2;replace B4:=Aa hxB B4;replace RA:=Aj RA hxB;replace u_RA:=Ad u_RA hxB.size;replace RL:=Aj RL hxB;replace u_RL:=Ad u_RL hxB.size;replace s:=s.ext hxB;have hsB:(w6.alloc (.cells #[.int .i64 (z1 - 1),.int .i64 6,.int .i64 z2,.int .i64 6,.int .i64 z3] 127)).heap.size=w6.heap.size+1:=by simp
   have hwz:(w.alloc (.cells #[.slice none 0 0,.slice none 0 0] 27)).heap.size≤w6.heap.size:=by omega
   refine app1 EL Lnk.flen Lnk.one rfl _ _ rfl (⟨z1 - 1,6,z2,6,z3⟩:Lnk) rfl (Own.toF RL) rfl (by exact Au (Lnk.f (⟨z1 - 1,6,z2,6,z3⟩:Lnk)) (blk_new _ _)) (by omega) (by unfold maxLen;omega) (by omega) ?_;intro v' w' ho' hg';have hxg:Chg (fun b=>((.slice o2 t.links.length c2:Value)).ownBlock=some b) (w6.alloc (.cells #[.int .i64 (z1 - 1),.int .i64 6,.int .i64 z2,.int .i64 6,.int .i64 z3] 127)) w':=Bn hg' (fun k hk=>hk);have hgx:∀ b,((.slice o2 t.links.length c2:Value)).ownBlock=some b→(w.alloc (.cells #[.slice none 0 0,.slice none 0 0] 27)).heap.size≤b∧b<w1.heap.size:=fun b hb=>RL.2 b hb
   have RAn:(Own.keep ASd.rep).own (rng (w.alloc (.cells #[.slice none 0 0,.slice none 0 0] 27)).heap.size w1.heap.size) w' (.slice (some ⟨ga,0,none⟩) t.ases.length ca) t.ases:=Be (O:=Own.flat ASd.f 3 ASd.flen 129) ⟨RA.1.chg hxg (fun k hk e=>OwnF.apartT (Own.toF RA) (Own.toF RL) (by decide) hk e),RA.2⟩;clear hg' RA RL;have RA:=RAn;clear RAn;replace u_RA:=Ad u_RA hxg.size;have hb4w:b4<(w6.alloc (.cells #[.int .i64 (z1 - 1),.int .i64 6,.int .i64 z2,.int .i64 6,.int .i64 z3] 127)).heap.size:=blk_lt B4;replace B2:=hxg.blkS B2 (fun hk=>by have h1:=hgx _ hk;omega);replace B4:=hxg.blkS B4 (fun hk=>by have h1:=hgx _ hk;omega);replace s:=s.put hxg (fun i hi=>by have h1:=hgx i hi;omega);have RL:(Own.keep Lnk.rep).own (fun q=>(w.alloc (.cells #[.slice none 0 0,.slice none 0 0] 27)).heap.size≤q∧q<w'.heap.size∧q≠b4) w' v' (t.links ++ [(⟨z1 - 1,6,z2,6,z3⟩:Lnk)]):=Be (O:=Own.flat Lnk.f 5 Lnk.flen 127) ⟨ho'.to0,fun k hk=>⟨(ho'.block k hk).1,(ho'.block k hk).2,fun e=>OwnF.ne ho' B4 (by decide) (by rw [← e];exact hk)⟩⟩;clear hxg hgx hxB hsB hwz hb4w ho' u_RL g_RL
   obtain⟨ln,hln⟩:∃ ln,ln=t.links ++ [(⟨z1 - 1,6,z2,6,z3⟩:Lnk)]:=⟨_,rfl⟩
   rw [← hln] at RL;have hnl:ln.length≤65:=by rw [hln];simp;omega
   clear hln;obtain⟨o',c',rfl,_⟩:=Bf (Own.rd _ RL);have HNL:=Ac hnl;clear hnl;obtain⟨wpn,hwn,hbn,hcn⟩:=one_set B4 1 (.slice o' ln.length c');simp only [List.setIfInBounds_toArray,List.set_cons_succ,List.set_cons_zero] at hbn;have HWn:=Ac hwn;clear hwn;have ff0:=fr2 B4;have cb:=blk2 B4
   go_wp2_with fail
   rw [← HWn.out];clear HWn cb ff0;replace RL:(Own.keep Lnk.rep).own (rng (w.alloc (.cells #[.slice none 0 0,.slice none 0 0] 27)).heap.size wpn.heap.size) wpn (.slice o' ln.length c') ln:=Own.mono _ (Own.kept _ RL hcn (fun b hb e=>hb.2.2 e)) (fun b hb=>⟨hb.1,Ak hb.2.1 hcn.size⟩);have u_RL:=Ae wpn.heap.size;replace RA:=Af RA hcn (by omega);replace u_RA:=Ad u_RA hcn.size;replace B2:=hcn.blkS B2 (by unfold at1;omega);replace B4:=hbn;clear hbn;replace s:=s.put hcn (fun i hi=>by have h1:i=b4:=hi;omega)
   try clear hcn
   refine NoPanic.normal ?_;clear hch q0
   go_wp2_with fail
   go_meet
   exact⟨t.ases,ln,_,_,_,_,hn8,HNL.out,B2,B4,⟨RA,u_RA⟩,⟨RL,u_RL⟩,s.c,s.x⟩
  have q4f:(q == 4)=false:=by rw [beq_eq_false_iff_ne];exact q4
  by_cases q5:q=5
  ·
   subst q5;replace RL:(Own.keep Lnk.rep).own (rng (w.alloc (.cells #[.slice none 0 0,.slice none 0 0] 27)).heap.size w1.heap.size) w3 (.slice o2 t.links.length c2) t.links:=Be RL;have hxa:Ext w3 (w3.alloc (.cells #[] 129)):=(Ab _).alloc _;have OE:=Bj ASd.f 3 w3.heap.size 129 w3 (Ae _);have hb4w:b4<w3.heap.size:=blk_lt B4;obtain⟨wpn,hwn,hbn,hcn⟩:=one_set (Aa hxa B4) 0 (.slice (some ⟨w3.heap.size,0,none⟩) 0 0);simp only [List.setIfInBounds_toArray,List.set_cons_zero] at hbn;have HWn:=Ac hwn;have HB4:=Ac hb4w;clear hwn hb4w;have cb1:=blk2 B4;have cb2:=blk2 (Aa hxa B4);have ff0:=fr2 (Aa hxa B4)
   go_wp2_with fail
   rw [← HWn.out];clear HWn cb1 cb2 ff0 RA u_RA g_RA;have hb4w:=HB4.out;clear HB4;have hszn:=hcn.size;have hlz:(w.alloc (.cells #[.slice none 0 0,.slice none 0 0] 27)).heap.size≤w3.heap.size:=by omega
   have RA:(Own.keep ASd.rep).own (rng (w.alloc (.cells #[.slice none 0 0,.slice none 0 0] 27)).heap.size wpn.heap.size) wpn (.slice (some ⟨w3.heap.size,0,none⟩) 0 0) []:=Cd (Be (O:=Own.flat ASd.f 3 ASd.flen 129) (Own.ofFr (OE.chg hcn (fun k hk e=>by have e1:k=b4:=e;have h1:=(OE.block k hk).1;omega)) (Ae _))) hlz;have u_RA:=Ae wpn.heap.size;replace RL:=Af (Aj RL hxa) hcn (by omega);replace u_RL:=Ad (Ad u_RL hxa.size) hcn.size;replace B2:=hcn.blkS (Aa hxa B2) (by unfold at1;omega);replace B4:=hbn;replace s:=(s.ext hxa).put hcn (fun i hi=>by have h1:i=b4:=hi;omega);clear hbn hcn hxa OE
   go_wp2_with fail
   go_meet
   exact⟨[],t.links,_,_,_,_,by simp,by omega,B2,B4,⟨RA,u_RA⟩,⟨RL,u_RL⟩,s.c,s.x⟩
  have q5f:(q == 5)=false:=by rw [beq_eq_false_iff_ne];exact q5
  replace RA:(Own.keep ASd.rep).own (rng (w.alloc (.cells #[.slice none 0 0,.slice none 0 0] 27)).heap.size w1.heap.size) w3 (.slice (some ⟨ga,0,none⟩) t.ases.length ca) t.ases:=Be RA;replace RL:(Own.keep Lnk.rep).own (rng (w.alloc (.cells #[.slice none 0 0,.slice none 0 0] 27)).heap.size w1.heap.size) w3 (.slice o2 t.links.length c2) t.links:=Be RL
  go_wp2_with fail
  go_meet
  exact⟨t.ases,t.links,_,_,_,_,hn8,by omega,B2,B4,⟨RA,u_RA⟩,⟨RL,u_RL⟩,s.c,s.x⟩
 case rest=>
  have hc0z:=s.c0;clear s B2 B4 RA RL u_RA u_RL;obtain⟨al,lk,va,vk,hiA,hiL,hal8,hlk65,B2,B4,⟨RA,u_RA⟩,⟨RL,u_RL⟩,hcC,hcX⟩:=hcut
  obtain⟨wz,hwz⟩:∃ wz:World,wz=wc:=⟨_,rfl⟩
  subst hwz
  have s:DSt g cv cd w wz:=⟨hcC,hcX,hc0z⟩
  clear hcC hcX hc0z;obtain⟨oa,cA,rfl,_⟩:=Bf (Own.rd _ RA);obtain⟨ol,cL,rfl,_⟩:=Bf (Own.rd _ RL);obtain⟨wpr,hwr,hbr,hcr⟩:=two_set B2 (.slice oa al.length cA) (.slice ol lk.length cL);have HWr:=Ac hwr;clear hwr;have ff0:=fr2 B2;have cb_B2:=blk2 B2;have cb_B4:=blk2 B4
  go_wp2_with fail
  clear cb_B2 cb_B4;rw [← HWr.out];clear HWr ff0;replace RA:=Af RA hcr (by omega);replace u_RA:=Ad u_RA hcr.size;replace RL:=Af RL hcr (by omega);replace u_RL:=Ad u_RL hcr.size;replace B4:=hcr.blkS B4 (by unfold at1;omega);replace B2:=hbr;clear hbr;replace s:=s.put hcr (fun i hi=>by have h1:i=w.heap.size:=hi;omega)
  try clear hcr
  have cr_B2:=blk2 B2;have cr_B4:=blk2 B4;have hszE:=s.x.size
  go_wp2_with fail
  refine bodyPost_ret (by simp [results,Tryz.results44,go_sem,cr_B2];rfl) rfl ?_;exact⟨_,_,⟨al,lk⟩,rfl,hal8,hlk65,(Bg (Cd RA (by omega)) (Ae _)),(Bg (Cd RL (by omega)) (Ae _)),s.c,s.x⟩
theorem s_DrawFailedInterfaces (code:List Int) (cv:Value) (w:World) (hr:RdS Rep.byte w cv code) (hu:∀ x∈code,U8 x) (hl:code.length≤1048576) :
  Calls Tryz.prog 9 #[cv] w fun e w'=>∃ (v1 v2 vd:Value) (t:Topo) (dead:List Int) (r:Int),e=.returned (.tuple #[.agg #[v1,v2],vd,.int .i64 r])∧t.size≤1048576∧RdS ASd.rep w' v1 t.ases∧RdS Lnk.rep w' v2 t.links∧RdS Rep.int w' vd dead∧Ext w w':=by
 obtain⟨hx0,HB⟩:=ea1 w (.cells #[.slice none 0 0,.slice none 0 0] 27)
 go_enter Tryz.func9,Tryz.ntmps9
 go_wp2_with fail
 refine(s_l1New code _ _ (hr.ext hx0) hu hl).mono ?_;rintro e w1 ⟨g,rfl,hgl,hc1,hn1⟩;have hgw:=hc1.lt
 have s:DSt g cv code w1 w1:=⟨hc1,Bq _ _,hc1⟩
 have B2:=Aa hn1 HB;have hgr:w.heap.size<g:=by simp at hgl;omega
 clear HB;clear hc1;have cb_B2:=blk2 B2
 go_wp2_with fail
 clear cb_B2;have hbs:w1.heap.size≤w1.heap.size:=s.x.size;have ltq_B2:w.heap.size<w1.heap.size:=blk_lt B2;refine(s_l5Any g _ _ _ s.c).mono ?_;rintro e w2 ⟨v1,v2,t,rfl,ha8,hl65,RA,RL,hcq,hzq⟩;replace B2:=hzq.blkS B2 (by unfold at1;omega);replace s:=s.draw hcq hzq;obtain⟨o1,c1,rfl,_⟩:=Bf (Own.rd _ RA);obtain⟨o2,c2,rfl,_⟩:=Bf (Own.rd _ RL);have g_RA:g<w1.heap.size:=by omega
 have u_RA:w2.heap.size≤w2.heap.size:=by omega
 have lt_B2_RA:w.heap.size<w1.heap.size:=by omega
 have g_RL:g<w1.heap.size:=by omega
 have u_RL:w2.heap.size≤w2.heap.size:=by omega
 have lt_B2_RL:w.heap.size<w1.heap.size:=by omega
 clear hzq hcq hbs ltq_B2;have cb_B2:=blk2 B2
 go_upto_region 3 with (fail)
 clear cb_B2;obtain⟨hxa,BB⟩:=ea1 w2 (.cells #[.slice o1 t.ases.length c1,.slice o2 t.links.length c2] 27)
 obtain⟨b6,eb6⟩:∃ b,b=w2.heap.size:=⟨_,rfl⟩
 have ltw_b6:w1.heap.size≤b6:=by rw [eb6];exact s.x.size
 have lt_B2_b6:w.heap.size<b6:=by rw [eb6];exact blk_lt B2
 have hb_RA_b6:w2.heap.size≤b6:=by rw [eb6];exact u_RA
 have hb_RL_b6:w2.heap.size≤b6:=by rw [eb6];exact u_RL
 replace B2:=Aa hxa B2;replace RA:=Aj RA hxa;replace u_RA:=Ad u_RA hxa.size;replace RL:=Aj RL hxa;replace u_RL:=Ad u_RL hxa.size;replace s:=s.ext hxa;have B6:=BB;rw [← eb6] at B6;rw [← eb6];clear hxa BB;generalize (w2.alloc (.cells #[.slice o1 t.ases.length c1,.slice o2 t.links.length c2] 27))=wa at B2 B6 RA RL u_RA u_RL s ⊢
 clear eb6;have cb_B2:=blk2 B2;have cb_B6:=blk2 B6
 go_wp2_with fail
 clear cb_B2 cb_B6;have hbs:w1.heap.size≤wa.heap.size:=s.x.size;have ltq_B2:w.heap.size<wa.heap.size:=blk_lt B2;have ltq_B6:b6<wa.heap.size:=blk_lt B6;refine(s_l29Dead g t _ _ _ _ _ _ s.c (by omega)).mono ?_;rintro e w3 ⟨vd,dead,rfl,hdl,oD,hcq,hzq⟩;replace B2:=hzq.blkS B2 (by unfold at1;omega);replace B6:=hzq.blkS B6 (by unfold at1;omega);replace RA:=Af RA hzq (.inl g_RA);replace u_RA:=Ad u_RA hzq.size;replace RL:=Af RL hzq (.inl g_RL);replace u_RL:=Ad u_RL hzq.size;replace s:=s.draw hcq hzq;have RD:=Be (Own.ofFr (hf:=intFlen) oD (Ae _));clear oD;have g_RD:g<wa.heap.size:=by omega
 have u_RD:w3.heap.size≤w3.heap.size:=by omega
 have lt_B2_RD:w.heap.size<wa.heap.size:=by omega
 have lt_B6_RD:b6<wa.heap.size:=by omega
 clear hzq hcq hbs ltq_B2 ltq_B6;have cb_B2:=blk2 B2;have cb_B6:=blk2 B6
 go_upto_region 4 with (fail)
 clear cb_B2 cb_B6;refine Bl (fun k=>k=g∨k=w.heap.size) [([0,1,2],3),([4],5)] [6,7] [] (by kernel_rfl) (by kernel_rfl) (by kernel_rfl) ?_;have ch_B6:=blk2 B6;have q0:=Cj (S:=fun k=>k=g∨k=w.heap.size) ch_B6 (by first | omega | (unfold at1;omega) | (simp only;omega));clear ch_B6;simp only [wpBlocksX,pickOps,PK];have hch:Chg (fun k=>k=g∨k=w.heap.size) w3 w3.drew:=Ar (Ab w3).drew;replace B2:=Aa ((Ab w3).drew) B2;replace B6:=Aa ((Ab w3).drew) B6;replace RA:=Aj RA ((Ab w3).drew);replace u_RA:=Ad u_RA ((Ab w3).drew).size;replace RL:=Aj RL ((Ab w3).drew);replace u_RL:=Ad u_RL ((Ab w3).drew).size;replace RD:=Aj RD ((Ab w3).drew);replace u_RD:=Ad u_RD ((Ab w3).drew).size;replace s:=s.ext ((Ab w3).drew)
 obtain⟨wt,hnw⟩:∃ wn,wn=w3.drew:=⟨_,rfl⟩
 rw [← hnw] at B2 B6 RA RL RD u_RA u_RL u_RD s hch ⊢
 clear hnw
 repeat (first | go_big_quiet_step (fail) | quiet_step (fail))
 refine wpQuiet_nil ?_
 go_wp2_with fail
 refine(s_l1Below g (9) _ _ _ s.c).mono ?_;rintro e w4 ⟨r,rfl,hr0,hr1,hcq,hzq⟩;replace B2:=hzq.blkS B2 (by unfold at1;omega);replace B6:=hzq.blkS B6 (by unfold at1;omega);replace RA:=Af RA hzq (.inl g_RA);replace u_RA:=Ad u_RA hzq.size;replace RL:=Af RL hzq (.inl g_RL);replace u_RL:=Ad u_RL hzq.size;replace RD:=Af RD hzq (.inl g_RD);replace u_RD:=Ad u_RD hzq.size;replace s:=s.draw hcq hzq;replace hch:=hch.trans (hzq.mono (fun b h=>.inl h));clear hzq hcq
 go_wp2_with fail
 refine⟨⟨⟨_,hch⟩,rfl⟩,?_⟩
 repeat (first | go_big_quiet_step (fail) | quiet_step (fail))
 refine wpQuiet_nil ?_;have hxe:=hx0.trans (hn1.ofCur s.x hgl);obtain⟨wpa,hwa,hba,hca⟩:=two_set B2 (.slice o1 t.ases.length c1) (.slice o2 t.links.length c2);have HWa:=Ac hwa;clear hwa;have ff0:=fr2 B2;have cb:=blk2 B2
 go_wp2_with fail
 rw [← HWa.out];clear HWa cb ff0;replace hch:=hch.trans (hca.mono (fun b h=>.inr h));refine⟨⟨⟨_,hch⟩,rfl⟩,?_⟩;replace RA:=Af RA hca (by omega);replace u_RA:=Ad u_RA hca.size;replace RL:=Af RL hca (by omega);replace u_RL:=Ad u_RL hca.size;replace RD:=Af RD hca (by omega);replace u_RD:=Ad u_RD hca.size;replace B6:=hca.blkS B6 (by unfold at1;omega);replace B2:=hba;clear hba;replace hxe:=hxe.chg hca (fun i hi=>by have h1:i=w.heap.size:=hi;omega)
 try clear hca
 repeat (first | go_big_quiet_step (fail) | quiet_step (fail))
 refine wpQuiet_nil ?_;refine NoPanic.normal ?_;clear hch q0;have cr_B2:=blk2 B2;have cr_B6:=blk2 B6;have hwb:=(hx0.trans hn1).size
 go_wp2_with fail
 refine bodyPost_ret (by simp [results,Tryz.results9,go_sem,cr_B2];rfl) rfl ?_;exact⟨_,_,_,t,dead,_,rfl,by unfold Topo.size;omega,Own.rd _ RA,Own.rd _ RL,Own.rd _ RD,hxe⟩
end
end Go.Proofs.YteodlcpeoaggbaaGreat
