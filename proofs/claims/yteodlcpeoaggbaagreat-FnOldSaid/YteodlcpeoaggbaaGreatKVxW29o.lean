/- Draws of what is asked of old packets: paths that are walked, and lists of paths. No condition but the bounds that each theorem names. -/
import Derived.Test.YteodlcpeoaggbaaGreatKVxW22y
import Derived.Test.YteodlcpeoaggbaaGreatKV27
import Derived.Test.YteodlcpeoaggbaaGreatKV37
namespace Go.Proofs.YteodlcpeoaggbaaGreat
section
open Go.ChangeShapes Go.WideShapes Go.ChangeAt Go.RowKit Go.Deep
set_option maxRecDepth 100000
set_option maxHeartbeats 20000000
theorem pth_part6 {w:World} {o:Option Addr} {c:Nat} {l:List Pth} (h:RdS Pth.rep w (.slice o l.length c) l) (hl:0<l.length):∃ b off,o=some ⟨b,off,none⟩:=by
 obtain⟨b,off,_,_,h1,_⟩:=Pth.at h 0 hl;exact⟨b,off,h1⟩
theorem take6 {w:World} {ad:Addr} {c:Nat} {l:List Pth} (h:RdS Pth.rep w (.slice (some ad) l.length c) l) {k:Nat} (hk:k≤l.length):RdS Pth.rep w (.slice (some ad) k c) (l.take k):=by
 by_cases h0:0<l.length
 ·
  obtain⟨b,off,h2⟩:=pth_part6 h h0
  cases h2
  have h1:=h.part 0 k (Nat.zero_le _) hk
  simpa only [Nat.zero_mul,Nat.add_zero,Nat.sub_zero,List.drop_zero] using h1
 obtain rfl:l=[]:=List.eq_nil_of_length_eq_zero (by omega);obtain rfl:k=0:=by simpa using hk
 exact h
theorem min6 (n:Nat):∃ k:Nat,k≤6∧k≤n∧(if (6:Int)<(n:Int) then 6 else (n:Int))=(k:Int):=by
 by_cases h:(6:Int)<(n:Int)
 ·
  exact⟨6,by omega,by omega,by rw [if_pos h];rfl⟩
 exact⟨n,by omega,by omega,by rw [if_neg h]⟩
theorem s_DrawReaches (code:List Int) (cv:Value) (w:World) (hr:RdS Rep.byte w cv code) (hu:∀ x∈code,U8 x) (hl:code.length≤1048576) :
  Calls Tryz.prog 31 #[cv] w fun e w'=>∃ (v1 v2 vd u0:Value) (t:Topo) (now:Int) (dead:List Int) (p:Pth),e=.returned (.tuple #[.agg #[v1,v2],.int .i64 now,vd,.agg #[u0]])∧TopoOk t∧p.size≤1048576∧RdS ASd.rep w' v1 t.ases∧RdS Lnk.rep w' v2 t.links∧RdS Rep.int w' vd dead∧RdS Part.rep w' u0 p.parts∧Ext w w':=by
 obtain⟨hx0,HB⟩:=ea2 w (.cells #[.slice none 0 0,.slice none 0 0] 27) (.cells #[.slice none 0 0] 30);have hls:w.heap.size+2≤((w.alloc (.cells #[.slice none 0 0,.slice none 0 0] 27)).alloc (.cells #[.slice none 0 0] 30)).heap.size:=by simp
 go_enter Tryz.func31,Tryz.ntmps31
 go_wp2_with fail
 refine(s_DrawTraverse code _ _ (hr.ext hx0) hu hl).mono ?_;rintro e w1 ⟨v1,v2,vd,u0,u1,t,now,dead,y,rfl,TK,hyb,hdl,RA,RL,RD,R0,R1,hn1⟩;have B2:=Aa hn1 HB.1;have B3:=Aa hn1 HB.2;clear HB;have hxe:=hx0.trans hn1;replace RA:=Cd RA hls;have u_RA:w1.heap.size≤w1.heap.size:=Ae _;replace RL:=Cd RL hls;have u_RL:w1.heap.size≤w1.heap.size:=Ae _;replace RD:=Cd RD hls;have u_RD:w1.heap.size≤w1.heap.size:=Ae _;replace R0:=Cd R0 hls;have u_R0:w1.heap.size≤w1.heap.size:=Ae _;replace R1:=Cd R1 hls;have u_R1:w1.heap.size≤w1.heap.size:=Ae _;obtain⟨o1,c1,rfl,_⟩:=Bf (Own.rd _ RA);obtain⟨o2,c2,rfl,_⟩:=Bf (Own.rd _ RL);obtain⟨o_d,c_d,rfl,_⟩:=Bf (Own.rd _ RD);obtain⟨o_0,c_0,rfl,_⟩:=Bf (Own.rd _ R0);obtain⟨o_1,c_1,rfl,_⟩:=Bf (Own.rd _ R1);have hys:=hyb.size;have s:=hxe;clear hxe hn1 hx0;have cb_B2:=blk2 B2;have cb_B3:=blk1 B3
 go_upto_region 2 with (fail)
 clear cb_B2 cb_B3;obtain⟨hxa,BB⟩:=ea2 w1 (.cells #[.slice o1 t.ases.length c1,.slice o2 t.links.length c2] 27) (.cells #[.int .i64 y.kind,.int .i64 y.src,.int .i64 y.dst,.slice o_0 y.path.parts.length c_0,.int .i64 y.pi,.int .i64 y.hi,.int .i64 y.beta,.int .i64 y.rid,.int .i64 y.seq,.slice o_1 y.pay.length c_1] 35);have ltw:w.heap.size+1<w1.heap.size:=blk_lt B3
 obtain⟨b4,eb4⟩:∃ b,b=w1.heap.size:=⟨_,rfl⟩
 rw [← eb4] at ltw;replace B2:=Aa hxa B2;replace B3:=Aa hxa B3;replace RA:=Aj RA hxa;replace u_RA:=Ad u_RA hxa.size;replace RL:=Aj RL hxa;replace u_RL:=Ad u_RL hxa.size;replace RD:=Aj RD hxa;replace u_RD:=Ad u_RD hxa.size;replace R0:=Aj R0 hxa;replace u_R0:=Ad u_R0 hxa.size;replace R1:=Aj R1 hxa;replace u_R1:=Ad u_R1 hxa.size;replace s:=s.trans hxa;have B4:=BB.1;have B5:=BB.2;rw [← eb4] at B4 B5;rw [← eb4];clear hxa BB;generalize ((w1.alloc (.cells #[.slice o1 t.ases.length c1,.slice o2 t.links.length c2] 27)).alloc (.cells #[.int .i64 y.kind,.int .i64 y.src,.int .i64 y.dst,.slice o_0 y.path.parts.length c_0,.int .i64 y.pi,.int .i64 y.hi,.int .i64 y.beta,.int .i64 y.rid,.int .i64 y.seq,.slice o_1 y.pay.length c_1] 35))=wa at B2 B3 B4 B5 RA RL RD R0 R1 u_RA u_RL u_RD u_R0 u_R1 s ⊢
 clear eb4;refine Bl (at1 w.heap.size) [([0,1,2,3,4],5)] [6,7] [8] (by kernel_rfl) (by kernel_rfl) (by kernel_rfl) ?_;have ch_B4:=blk2 B4;have q0:=Cj (S:=at1 w.heap.size) ch_B4 (by first | omega | (unfold at1;omega) | (simp only;omega));clear ch_B4;have ch_B5:=blk10 B5;have q2:=ChgSW.c10 (S:=at1 w.heap.size) ch_B5 (by first | omega | (unfold at1;omega) | (simp only;omega));clear ch_B5;simp only [wpBlocksX,pickOps,PK];have hch:Chg (at1 w.heap.size) wa wa.drew:=Ar (Ab wa).drew;replace B2:=Aa ((Ab wa).drew) B2;replace B3:=Aa ((Ab wa).drew) B3;replace B4:=Aa ((Ab wa).drew) B4;replace B5:=Aa ((Ab wa).drew) B5;replace RA:=Aj RA ((Ab wa).drew);replace u_RA:=Ad u_RA ((Ab wa).drew).size;replace RL:=Aj RL ((Ab wa).drew);replace u_RL:=Ad u_RL ((Ab wa).drew).size;replace RD:=Aj RD ((Ab wa).drew);replace u_RD:=Ad u_RD ((Ab wa).drew).size;replace R0:=Aj R0 ((Ab wa).drew);replace u_R0:=Ad u_R0 ((Ab wa).drew).size;replace R1:=Aj R1 ((Ab wa).drew);replace u_R1:=Ad u_R1 ((Ab wa).drew).size;replace s:=s.trans ((Ab wa).drew)
 obtain⟨wt,hnw⟩:∃ wn,wn=wa.drew:=⟨_,rfl⟩
 rw [← hnw] at B2 B3 B4 B5 RA RL RD R0 R1 u_RA u_RL u_RD u_R0 u_R1 s hch ⊢
 clear hnw
 repeat (first | go_big_quiet_step (fail) | quiet_step (fail))
 refine wpQuiet_nil ?_;have hlw:w.heap.size+1<wt.heap.size:=blk_lt B3;have hxe:=s;obtain⟨wpa,hwa,hba,hca⟩:=two_set B2 (.slice o1 t.ases.length c1) (.slice o2 t.links.length c2);have HWa:=Ac hwa;clear hwa;have ff0:=fr2 B2;have cb:=blk2 B2
 go_wp2_with fail
 rw [← HWa.out];clear HWa cb ff0;replace hch:=hch.trans (hca.mono (fun b h=>h));refine⟨⟨⟨_,hch⟩,rfl⟩,?_⟩;replace RA:=Af RA hca (by omega);replace u_RA:=Ad u_RA hca.size;replace RL:=Af RL hca (by omega);replace u_RL:=Ad u_RL hca.size;replace RD:=Af RD hca (by omega);replace u_RD:=Ad u_RD hca.size;replace R0:=Af R0 hca (by omega);replace u_R0:=Ad u_R0 hca.size;replace R1:=Af R1 hca (by omega);replace u_R1:=Ad u_R1 hca.size;replace B3:=hca.blkS B3 (by unfold at1;omega);replace B4:=hca.blkS B4 (by unfold at1;omega);replace B5:=hca.blkS B5 (by unfold at1;omega);replace B2:=hba;clear hba;replace hxe:=hxe.chg hca (fun i hi=>by have h1:i=w.heap.size:=hi;omega)
 try clear hca
 repeat (first | go_big_quiet_step (fail) | quiet_step (fail))
 refine wpQuiet_nil ?_;obtain⟨wpb,hwb,hbb,hcb⟩:=set1 B3 (.slice o_0 y.path.parts.length c_0);have HWb:=Ac hwb;clear hwb;have ff0:=fr_of B3 0;have cb:=blk1 B3
 go_wp2_with fail
 rw [← HWb.out];clear HWb cb ff0;replace RA:=Af RA hcb (by omega);replace u_RA:=Ad u_RA hcb.size;replace RL:=Af RL hcb (by omega);replace u_RL:=Ad u_RL hcb.size;replace RD:=Af RD hcb (by omega);replace u_RD:=Ad u_RD hcb.size;replace R0:=Af R0 hcb (by omega);replace u_R0:=Ad u_R0 hcb.size;replace R1:=Af R1 hcb (by omega);replace u_R1:=Ad u_R1 hcb.size;replace B2:=hcb.blkS B2 (by unfold at1;omega);replace B4:=hcb.blkS B4 (by unfold at1;omega);replace B5:=hcb.blkS B5 (by unfold at1;omega);replace B3:=hbb;clear hbb;replace hxe:=hxe.chg hcb (fun i hi=>by have h1:i=(w.heap.size+1):=hi;omega)
 try clear hcb
 refine NoPanic.normal ?_;clear hch q0 q2;have cr_B2:=blk2 B2;have cr_B3:=blk1 B3;have cr_B4:=blk2 B4;have cr_B5:=blk10 B5;have hwb:=hxe.size
 go_wp2_with fail
 refine bodyPost_ret (by simp [results,Tryz.results31,go_sem,cr_B2,cr_B3];rfl) rfl ?_;exact⟨_,_,_,_,t,now,dead,y.path,rfl,TK,by unfold Pkt.size at hys;omega,Own.rd _ RA,Own.rd _ RL,Own.rd _ RD,Own.rd _ R0,hxe⟩
theorem s_DrawWorkingPaths (code:List Int) (cv:Value) (w:World) (hr:RdS Rep.byte w cv code) (hu:∀ x∈code,U8 x) (hl:code.length≤1048576) :
  Calls Tryz.prog 29 #[cv] w fun e w'=>∃ (v1 v2 vd vp:Value) (t:Topo) (dead:List Int) (L:List Pth),e=.returned (.tuple #[.agg #[v1,v2],.int .i64 50,vd,vp])∧TopoOk t∧L.length≤6∧(∀ x∈L,PBd 3 x.parts)∧RdS ASd.rep w' v1 t.ases∧RdS Lnk.rep w' v2 t.links∧RdS Rep.int w' vd dead∧RdS Pth.rep w' vp L∧Ext w w':=by
 obtain⟨hx0,HB⟩:=ea1 w (.cells #[.slice none 0 0,.slice none 0 0] 27)
 go_enter Tryz.func29,Tryz.ntmps29
 go_wp2_with fail
 refine(s_l1New code _ _ (hr.ext hx0) hu hl).mono ?_;rintro e w1 ⟨g,rfl,hgl,hc1,hn1⟩;have hgw:=hc1.lt
 have s:DSt g cv code w1 w1:=⟨hc1,Bq _ _,hc1⟩
 have B2:=Aa hn1 HB;have hgr:w.heap.size<g:=by simp at hgl;omega
 clear HB;clear hc1;have cb_B2:=blk2 B2
 go_wp2_with fail
 clear cb_B2;have hbs:w1.heap.size≤w1.heap.size:=s.x.size;have ltq_B2:w.heap.size<w1.heap.size:=blk_lt B2;refine(s_l23Book g _ _ _ s.c).mono ?_;rintro e w2 ⟨v1,v2,vd,vc,t,D,C,rfl,TK,hD,hC,hoD,RA,RL,RD,RC,hcq,hzq⟩;replace B2:=hzq.blkS B2 (by unfold at1;omega);replace s:=s.draw hcq hzq;obtain⟨o1,c1,rfl,_⟩:=Bf (Own.rd _ RA);obtain⟨o2,c2,rfl,_⟩:=Bf (Own.rd _ RL);obtain⟨o_D,c_D,rfl,_⟩:=Bf (Own.rd _ RD);obtain⟨o_C,c_C,rfl,_⟩:=Bf (Own.rd _ RC);have g_RA:g<w1.heap.size:=by omega
 have u_RA:w2.heap.size≤w2.heap.size:=by omega
 have lt_B2_RA:w.heap.size<w1.heap.size:=by omega
 have g_RL:g<w1.heap.size:=by omega
 have u_RL:w2.heap.size≤w2.heap.size:=by omega
 have lt_B2_RL:w.heap.size<w1.heap.size:=by omega
 have g_RD:g<w1.heap.size:=by omega
 have u_RD:w2.heap.size≤w2.heap.size:=by omega
 have lt_B2_RD:w.heap.size<w1.heap.size:=by omega
 have g_RC:g<w1.heap.size:=by omega
 have u_RC:w2.heap.size≤w2.heap.size:=by omega
 have lt_B2_RC:w.heap.size<w1.heap.size:=by omega
 clear hzq hcq hbs ltq_B2;have cb_B2:=blk2 B2
 go_upto_region 3 with (fail)
 clear cb_B2;obtain⟨hxa,BB⟩:=ea2 w2 (.cells #[.slice o1 t.ases.length c1,.slice o2 t.links.length c2] 27) (.cells #[.slice o_D D.length c_D,.slice o_C C.length c_C] 108)
 obtain⟨b3,eb3⟩:∃ b,b=w2.heap.size:=⟨_,rfl⟩
 have ltw_b3:w1.heap.size≤b3:=by rw [eb3];exact s.x.size
 have lt_B2_b3:w.heap.size<b3:=by rw [eb3];exact blk_lt B2
 have hb_RA_b3:w2.heap.size≤b3:=by rw [eb3];exact u_RA
 have hb_RL_b3:w2.heap.size≤b3:=by rw [eb3];exact u_RL
 have hb_RD_b3:w2.heap.size≤b3:=by rw [eb3];exact u_RD
 have hb_RC_b3:w2.heap.size≤b3:=by rw [eb3];exact u_RC
 replace B2:=Aa hxa B2;replace RA:=Aj RA hxa;replace u_RA:=Ad u_RA hxa.size;replace RL:=Aj RL hxa;replace u_RL:=Ad u_RL hxa.size;replace RD:=Aj RD hxa;replace u_RD:=Ad u_RD hxa.size;replace RC:=Aj RC hxa;replace u_RC:=Ad u_RC hxa.size;replace s:=s.ext hxa;have B3:=BB.1;have B4:=BB.2;rw [← eb3] at B3 B4;rw [← eb3];clear hxa BB;generalize ((w2.alloc (.cells #[.slice o1 t.ases.length c1,.slice o2 t.links.length c2] 27)).alloc (.cells #[.slice o_D D.length c_D,.slice o_C C.length c_C] 108))=wa at B2 B3 B4 RA RL RD RC u_RA u_RL u_RD u_RC s ⊢
 clear eb3;have cb_B2:=blk2 B2;have cb_B3:=blk2 B3;have cb_B4:=blk2 B4
 go_wp2_with fail
 clear cb_B2 cb_B3 cb_B4;refine(s_l23Ends g D _ (.slice o_C C.length c_C) _ _ _ s.c (Own.stR RD (.inl g_RD)) hoD).mono ?_;rintro e w3 ⟨a,b,rfl,hcq,hzq⟩;replace B2:=hzq.blkS B2 (by unfold at1;omega);replace B3:=hzq.blkS B3 (by unfold at1;omega);replace B4:=hzq.blkS B4 (by unfold at1;omega);replace RA:=Af RA hzq (.inl g_RA);replace u_RA:=Ad u_RA hzq.size;replace RL:=Af RL hzq (.inl g_RL);replace u_RL:=Ad u_RL hzq.size;replace RD:=Af RD hzq (.inl g_RD);replace u_RD:=Ad u_RD hzq.size;replace RC:=Af RC hzq (.inl g_RC);replace u_RC:=Ad u_RC hzq.size;replace s:=s.draw hcq hzq;clear hzq hcq;have cb_B2:=blk2 B2;have cb_B3:=blk2 B3;have cb_B4:=blk2 B4
 go_wp2_with fail
 clear cb_B2 cb_B3 cb_B4;have hbs:w1.heap.size≤w3.heap.size:=s.x.size;have ltq_B2:w.heap.size<w3.heap.size:=blk_lt B2;have ltq_B3:b3<w3.heap.size:=blk_lt B3;have ltq_B4:(b3+1)<w3.heap.size:=blk_lt B4;refine(s_CombinePaths t _ _ D C _ _ a b _ (Own.rd _ RA) (Own.rd _ RD) (Own.rd _ RC) hD hC).mono ?_;rintro e w4 ⟨v,L,rfl,hL,OP,hzq⟩;replace B2:=Aa hzq B2;replace B3:=Aa hzq B3;replace B4:=Aa hzq B4;replace RA:=Aj RA hzq;replace u_RA:=Ad u_RA hzq.size;replace RL:=Aj RL hzq;replace u_RL:=Ad u_RL hzq.size;replace RD:=Aj RD hzq;replace u_RD:=Ad u_RD hzq.size;replace RC:=Aj RC hzq;replace u_RC:=Ad u_RC hzq.size;replace s:=s.ext hzq;have RP:(Own.keep Pth.rep).own (rng w3.heap.size w4.heap.size) w4 v L:=Be OP;clear OP;obtain⟨oP,cP,rfl,_⟩:=Bf (Own.rd _ RP);have g_RP:g<w3.heap.size:=by omega
 have u_RP:w4.heap.size≤w4.heap.size:=by omega
 have lt_B2_RP:w.heap.size<w3.heap.size:=by omega
 have lt_B3_RP:b3<w3.heap.size:=by omega
 have lt_B4_RP:(b3+1)<w3.heap.size:=by omega
 clear hzq hbs ltq_B2 ltq_B3 ltq_B4;obtain⟨_,_,hq9,hcap9,hmax9,hnil9,_⟩:=Own.rd _ RP
 cases hq9
 have hLb:=hL.2;have hfw:=TK.few;clear RD RC u_RD u_RC g_RD g_RC B4 hoD hD hC;have cb_B2:=blk2 B2;have cb_B3:=blk2 B3
 go_upto_region 5 with (fail)
 clear cb_B2 cb_B3;obtain⟨k,hk6,hkL,hkq⟩:=min6 L.length;have HKQ:=Ac hkq;clear hkq;have hkc:k≤cP:=by omega
 rcases oP with _ | ad9
 ·
  obtain rfl:cP=0:=hnil9 rfl;obtain rfl:k=0:=by omega
  obtain rfl:L=[]:=List.eq_nil_of_length_eq_zero (by omega);refine Bl (fun k=>k=g∨k=w.heap.size) [([0,1,2,4,5,6],3),([],7),([8],9)] [10,11,12] [] (by kernel_rfl) (by kernel_rfl) (by kernel_rfl) ?_;have ch_B3:=blk2 B3;have q0:=Cj (S:=fun k=>k=g∨k=w.heap.size) ch_B3 (by first | omega | (unfold at1;omega) | (simp only;omega));clear ch_B3;simp only [wpBlocksX,pickOps,PK];have hch:Chg (fun k=>k=g∨k=w.heap.size) w4 w4.drew:=Ar (Ab w4).drew;replace B2:=Aa ((Ab w4).drew) B2;replace B3:=Aa ((Ab w4).drew) B3;replace RA:=Aj RA ((Ab w4).drew);replace u_RA:=Ad u_RA ((Ab w4).drew).size;replace RL:=Aj RL ((Ab w4).drew);replace u_RL:=Ad u_RL ((Ab w4).drew).size;replace RP:=Aj RP ((Ab w4).drew);replace u_RP:=Ad u_RP ((Ab w4).drew).size;replace s:=s.ext ((Ab w4).drew)
  obtain⟨wt,hnw⟩:∃ wn,wn=w4.drew:=⟨_,rfl⟩
  rw [← hnw] at B2 B3 RA RL RP u_RA u_RL u_RP s hch ⊢
  clear hnw
  repeat (first | go_big_quiet_step (fail) | quiet_step (fail))
  refine wpQuiet_nil ?_
  go_wp2_with fail
  have hbs:w1.heap.size≤wt.heap.size:=s.x.size;have ltq_B2:w.heap.size<wt.heap.size:=blk_lt B2;have ltq_B3:b3<wt.heap.size:=blk_lt B3;refine(s_l29Dead g t _ _ _ _ _ _ s.c (by omega)).mono ?_;rintro e w5 ⟨vd,dead,rfl,hdl,oD,hcq,hzq⟩;replace B2:=hzq.blkS B2 (by unfold at1;omega);replace B3:=hzq.blkS B3 (by unfold at1;omega);replace RA:=Af RA hzq (.inl g_RA);replace u_RA:=Ad u_RA hzq.size;replace RL:=Af RL hzq (.inl g_RL);replace u_RL:=Ad u_RL hzq.size;replace RP:=Af RP hzq (.inl g_RP);replace u_RP:=Ad u_RP hzq.size;replace s:=s.draw hcq hzq;replace hch:=hch.trans (hzq.mono (fun b h=>.inl h));have RD:=Be (Own.ofFr (hf:=intFlen) oD (Ae _));clear oD;have g_RD:g<wt.heap.size:=by omega
  have u_RD:w5.heap.size≤w5.heap.size:=by omega
  have lt_B2_RD:w.heap.size<wt.heap.size:=by omega
  have lt_B3_RD:b3<wt.heap.size:=by omega
  clear hzq hcq hbs ltq_B2 ltq_B3
  go_wp2_with fail
  refine⟨⟨⟨_,hch⟩,rfl⟩,?_⟩
  repeat (first | go_big_quiet_step (fail) | quiet_step (fail))
  refine wpQuiet_nil ?_
  go_wp2_with fail
  refine(s_Min _ _ _).mono ?_;rintro e _ ⟨hq,rfl⟩
  simp at hq
  subst hq
  go_wp2_with fail
  refine⟨⟨⟨_,hch⟩,rfl⟩,?_⟩
  repeat (first | go_big_quiet_step (fail) | quiet_step (fail))
  refine wpQuiet_nil ?_;have hxe:=hx0.trans (hn1.ofCur s.x hgl);obtain⟨wpa,hwa,hba,hca⟩:=two_set B2 (.slice o1 t.ases.length c1) (.slice o2 t.links.length c2);have HWa:=Ac hwa;clear hwa;have ff0:=fr2 B2;have cb:=blk2 B2
  go_wp2_with fail
  rw [← HWa.out];clear HWa cb ff0;replace hch:=hch.trans (hca.mono (fun b h=>.inr h));refine⟨⟨⟨_,hch⟩,rfl⟩,?_⟩;replace RA:=Af RA hca (by omega);replace u_RA:=Ad u_RA hca.size;replace RL:=Af RL hca (by omega);replace u_RL:=Ad u_RL hca.size;replace RP:=Af RP hca (by omega);replace u_RP:=Ad u_RP hca.size;replace RD:=Af RD hca (by omega);replace u_RD:=Ad u_RD hca.size;replace B3:=hca.blkS B3 (by unfold at1;omega);replace B2:=hba;clear hba;replace hxe:=hxe.chg hca (fun i hi=>by have h1:i=w.heap.size:=hi;omega)
  try clear hca
  repeat (first | go_big_quiet_step (fail) | quiet_step (fail))
  refine wpQuiet_nil ?_;refine NoPanic.normal ?_;clear hch q0;have cr_B2:=blk2 B2;have cr_B3:=blk2 B3;have hwb:=(hx0.trans hn1).size
  go_wp2_with fail
  refine bodyPost_ret (by simp [results,Tryz.results29,go_sem,cr_B2];rfl) rfl ?_;exact⟨_,_,_,_,t,dead,[],rfl,TK,(by simp),(by simp),Own.rd _ RA,Own.rd _ RL,Own.rd _ RD,Own.rd _ RP,hxe⟩
 refine Bl (fun k=>k=g∨k=w.heap.size) [([0,1,2,4,5,6],3),([],7),([8],9)] [10,11,12] [] (by kernel_rfl) (by kernel_rfl) (by kernel_rfl) ?_;have ch_B3:=blk2 B3;have q0:=Cj (S:=fun k=>k=g∨k=w.heap.size) ch_B3 (by first | omega | (unfold at1;omega) | (simp only;omega));clear ch_B3;simp only [wpBlocksX,pickOps,PK];have hch:Chg (fun k=>k=g∨k=w.heap.size) w4 w4.drew:=Ar (Ab w4).drew;replace B2:=Aa ((Ab w4).drew) B2;replace B3:=Aa ((Ab w4).drew) B3;replace RA:=Aj RA ((Ab w4).drew);replace u_RA:=Ad u_RA ((Ab w4).drew).size;replace RL:=Aj RL ((Ab w4).drew);replace u_RL:=Ad u_RL ((Ab w4).drew).size;replace RP:=Aj RP ((Ab w4).drew);replace u_RP:=Ad u_RP ((Ab w4).drew).size;replace s:=s.ext ((Ab w4).drew)
 obtain⟨wt,hnw⟩:∃ wn,wn=w4.drew:=⟨_,rfl⟩
 rw [← hnw] at B2 B3 RA RL RP u_RA u_RL u_RP s hch ⊢
 clear hnw
 repeat (first | go_big_quiet_step (fail) | quiet_step (fail))
 refine wpQuiet_nil ?_
 go_wp2_with fail
 have hbs:w1.heap.size≤wt.heap.size:=s.x.size;have ltq_B2:w.heap.size<wt.heap.size:=blk_lt B2;have ltq_B3:b3<wt.heap.size:=blk_lt B3;refine(s_l29Dead g t _ _ _ _ _ _ s.c (by omega)).mono ?_;rintro e w5 ⟨vd,dead,rfl,hdl,oD,hcq,hzq⟩;replace B2:=hzq.blkS B2 (by unfold at1;omega);replace B3:=hzq.blkS B3 (by unfold at1;omega);replace RA:=Af RA hzq (.inl g_RA);replace u_RA:=Ad u_RA hzq.size;replace RL:=Af RL hzq (.inl g_RL);replace u_RL:=Ad u_RL hzq.size;replace RP:=Af RP hzq (.inl g_RP);replace u_RP:=Ad u_RP hzq.size;replace s:=s.draw hcq hzq;replace hch:=hch.trans (hzq.mono (fun b h=>.inl h));have RD:=Be (Own.ofFr (hf:=intFlen) oD (Ae _));clear oD;have g_RD:g<wt.heap.size:=by omega
 have u_RD:w5.heap.size≤w5.heap.size:=by omega
 have lt_B2_RD:w.heap.size<wt.heap.size:=by omega
 have lt_B3_RD:b3<wt.heap.size:=by omega
 clear hzq hcq hbs ltq_B2 ltq_B3
 go_wp2_with fail
 refine⟨⟨⟨_,hch⟩,rfl⟩,?_⟩
 repeat (first | go_big_quiet_step (fail) | quiet_step (fail))
 refine wpQuiet_nil ?_
 go_wp2_with fail
 refine(s_Min _ _ _).mono ?_;rintro e _ ⟨hq,rfl⟩;rw [HKQ.out] at hq;subst hq
 go_wp2_with fail
 refine⟨⟨⟨_,hch⟩,rfl⟩,?_⟩
 repeat (first | go_big_quiet_step (fail) | quiet_step (fail))
 refine wpQuiet_nil ?_;have hxe:=hx0.trans (hn1.ofCur s.x hgl);obtain⟨wpa,hwa,hba,hca⟩:=two_set B2 (.slice o1 t.ases.length c1) (.slice o2 t.links.length c2);have HWa:=Ac hwa;clear hwa;have ff0:=fr2 B2;have cb:=blk2 B2
 go_wp2_with fail
 rw [← HWa.out];clear HWa cb ff0;replace hch:=hch.trans (hca.mono (fun b h=>.inr h));refine⟨⟨⟨_,hch⟩,rfl⟩,?_⟩;replace RA:=Af RA hca (by omega);replace u_RA:=Ad u_RA hca.size;replace RL:=Af RL hca (by omega);replace u_RL:=Ad u_RL hca.size;replace RP:=Af RP hca (by omega);replace u_RP:=Ad u_RP hca.size;replace RD:=Af RD hca (by omega);replace u_RD:=Ad u_RD hca.size;replace B3:=hca.blkS B3 (by unfold at1;omega);replace B2:=hba;clear hba;replace hxe:=hxe.chg hca (fun i hi=>by have h1:i=w.heap.size:=hi;omega)
 try clear hca
 repeat (first | go_big_quiet_step (fail) | quiet_step (fail))
 refine wpQuiet_nil ?_;refine NoPanic.normal ?_;clear hch q0;have cr_B2:=blk2 B2;have cr_B3:=blk2 B3;have hwb:=(hx0.trans hn1).size
 go_wp2_with fail
 refine bodyPost_ret (by simp [results,Tryz.results29,go_sem,cr_B2];rfl) rfl ?_;exact⟨_,_,_,_,t,dead,(L.take k),rfl,TK,(by simp;omega),(fun x hx=>hLb x (List.mem_of_mem_take hx)),Own.rd _ RA,Own.rd _ RL,Own.rd _ RD,(take6 (Own.rd _ RP) hkL),hxe⟩
end
end Go.Proofs.YteodlcpeoaggbaaGreat
