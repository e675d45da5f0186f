/- What these laws need: FnOld, FnWalks: Draws of links that are down, and of what is traversed. -/
import Derived.Test.YteodlcpeoaggbaaGreatKV26
namespace Go.Proofs.YteodlcpeoaggbaaGreat
section
open Go.ChangeShapes Go.WideShapes Go.ChangeAt Go.RowKit Go.Deep
set_option maxRecDepth 100000
set_option maxHeartbeats 40000000
theorem s_l29Dead (g:Nat) (t:Topo) (v1:Value) (o2:Option Addr) (c2:Nat) (cv:Value) (cd:List Int) (w:World) (hc:Cur g cv cd w) (hl:t.links.length≤1048576) :
  Calls Tryz.prog 39 #[.pointer (some ⟨g,0,none⟩),.agg #[v1,.slice o2 t.links.length c2]] w fun e w'=>∃ (v:Value) (l:List Int),e=.returned v∧l.length≤t.links.length∧OwnF intF 1 w.heap.size 3 w' v l∧Cur g cv cd w'∧Chg (at1 g) w w':=by
 obtain⟨EI⟩:=elemInt;have hgw:=hc.lt;obtain⟨hx0,hB⟩:=ea1 w (.cells #[v1,.slice o2 t.links.length c2] 27)
 obtain⟨W0,hW0⟩:∃ W0:World,W0=w.alloc (.cells #[v1,.slice o2 t.links.length c2] 27):=⟨_,rfl⟩
 have hs0:W0.heap.size=w.heap.size+1:=by rw [hW0];simp
 rw [← hW0] at hx0 hB;have ho0:=Bj intF 1 (w.heap.size+1) 3 W0 (by omega);have hx1:Ext w (W0.alloc (.cells #[] 3)):=hx0.alloc _;have hc0:=hc.ext hx1;have hb1:=Aa ((Ab W0).alloc (.cells #[] 3)) hB
 go_enter Tryz.func39,Tryz.ntmps39
 go_upto_region 1 with (fail)
 rw [← hW0];have HW0:=Ac hW0;clear hW0;have HS0:=Ac hs0;clear hs0
 go_wp2_with fail
 go_loopg [5,6] t.links.length (fun gk out i wr=>∃ (k:Nat) (l:List Int),gk+k=t.links.length∧i=.int .i64 k∧l.length≤k∧OwnF intF 1 (w.heap.size+1) 3 wr out l∧wr.heap[w.heap.size]?=some (.cells #[v1,.slice o2 t.links.length c2] 27)∧Cur g cv cd wr∧Chg (at1 g) w wr)
 case atStart=>exact⟨0,[],by omega,rfl,by simp,ho0,hb1,hc0,Ar hx1⟩
 case round=>
  obtain⟨k,l,hgk,rfl,hlk,ho,hb,hcr,hxr⟩:=hrel;have HGK:=Ac hgk;clear hgk ho0 hc0 hx0 hb1 hx1 hB;have hkm:k≤t.links.length:=by have h2:=HGK.out;omega
  have cb:=blk2 hb
  by_cases hlt:k<t.links.length
  ·
   have hlt2:(k:Int)<(t.links.length:Int):=by omega
   go_wp2_with fail
   refine(s_l1Once g (8) cv cd _ hcr).mono ?_;rintro e w1 ⟨b,rfl,hc1,hx1⟩;have ho1:=ho.chg hx1 (fun q hq e=>by have h2:=(ho.block q hq).1;have h3:q=g:=e;omega);have hb1:=hx1.blkS hb (by unfold at1;omega);have hs1:=hxr.size;have hs2:=hx1.size;have hbl:=blk_lt hb1;clear cb
   cases b
   case false=>
    go_wp2_with fail
    go_roundg (gk - 1)
    case measure=>have h2:=HGK.out;omega
    case rel=>exact⟨k+1,l,by have h2:=HGK.out;omega,congrArg (Value.int .i64) (by first | omega | (unfold wrap64;omega)),by omega,ho1,hb1,hc1,hxr.trans hx1⟩
   case true=>
    go_wp2_with (at_builtin;refine app1 EI intFlen intOne rfl _ _ rfl (k:Int) rfl (Ay ho1 ((Ab _).alloc _)) rfl (by exact Au (intF (k:Int)) (blk_new _ _)) (by omega) (by unfold maxLen;omega) (by simp;omega) ?_)
    intro v' w' ho' hg';have h2:=Bn (S:=_) hg' (fun k hk=>hk);have hb2:=h2.blkS (Aa ((Ab w1).alloc _) hb1) (fun hk=>by have h3:=(ho1.block _ hk).1;omega);have hxa:Chg (at1 g) w w':=Chg.up ((hxr.t hx1).ext ((Ab w1).alloc _)) h2 (fun i hi=>.inr (by have h3:=(ho.block i hi).1;omega));have hcc:Cur g cv cd w':=Cur.kept hc (hc1.ext ((Ab w1).alloc _)) h2 (fun hk=>by have h3:=(ho.block g hk).1;omega) hxa;clear h2 hg' ho1
    go_wp2_with fail
    go_roundg (gk - 1)
    case measure=>have h2:=HGK.out;omega
    case rel=>exact⟨k+1,_,by have h2:=HGK.out;omega,congrArg (Value.int .i64) (by first | omega | (unfold wrap64;omega)),by simp;omega,ho',hb2,hcc,hxa⟩
  have hge:¬ (k:Int)<(t.links.length:Int):=by omega
  go_wp2_with fail
  go_ret
  exact⟨_,rfl,l,by omega,ho.mono (by omega),hcr,hxr⟩
theorem s_DrawTraverse (code:List Int) (cv:Value) (w:World) (hr:RdS Rep.byte w cv code) (hu:∀ x∈code,U8 x) (hl:code.length≤1048576) :
  Calls Tryz.prog 7 #[cv] w fun e w'=>∃ (v1 v2 vd u0 u1:Value) (t:Topo) (now:Int) (dead:List Int) (x:Pkt),e=.returned (.tuple #[.agg #[v1,v2],.int .i64 now,vd,.agg #[.int .i64 x.kind,.int .i64 x.src,.int .i64 x.dst,u0,.int .i64 x.pi,.int .i64 x.hi,.int .i64 x.beta,.int .i64 x.rid,.int .i64 x.seq,u1]])∧TopoOk t∧PktBd x∧dead.length≤64∧(Own.keep ASd.rep).own (rng w.heap.size w'.heap.size) w' v1 t.ases∧(Own.keep Lnk.rep).own (rng w.heap.size w'.heap.size) w' v2 t.links∧(Own.keep Rep.int).own (rng w.heap.size w'.heap.size) w' vd dead∧(Own.keep Part.rep).own (rng w.heap.size w'.heap.size) w' u0 x.path.parts∧(Own.keep Rep.byte).own (rng w.heap.size w'.heap.size) w' u1 x.pay∧Ext w w':=by
 obtain⟨hx0,HB⟩:=ea2 w (.cells #[.slice none 0 0,.slice none 0 0] 27) (.cells #[.int .i64 0,.int .i64 0,.int .i64 0,.slice none 0 0,.int .i64 0,.int .i64 0,.int .i64 0,.int .i64 0,.int .i64 0,.slice none 0 0] 35)
 go_enter Tryz.func7,Tryz.ntmps7
 go_wp2_with fail
 refine(s_l1New code _ _ (hr.ext hx0) hu hl).mono ?_;rintro e w1 ⟨g,rfl,hgl,hc1,hn1⟩;have hgw:=hc1.lt
 have s:DSt g cv code w1 w1:=⟨hc1,Bq _ _,hc1⟩
 have B2:=Aa hn1 HB.1;have B3:=Aa hn1 HB.2;have hgr:(w.heap.size+1)<g:=by simp at hgl;omega
 clear HB;clear hc1;have cb_B2:=blk2 B2;have cb_B3:=blk10 B3
 go_wp2_with fail
 clear cb_B2 cb_B3;have hbs:w1.heap.size≤w1.heap.size:=s.x.size;have ltq_B2:w.heap.size<w1.heap.size:=blk_lt B2;have ltq_B3:(w.heap.size+1)<w1.heap.size:=blk_lt B3;refine(s_l26Draw g _ _ _ s.c).mono ?_;rintro e w2 ⟨v1,v2,u0,u1,t,x,rfl,TK,hxb,RA,RL,R0,R1,hcq,hzq⟩;replace B2:=hzq.blkS B2 (by unfold at1;omega);replace B3:=hzq.blkS B3 (by unfold at1;omega);replace s:=s.draw hcq hzq;obtain⟨o1,c1,rfl,_⟩:=Bf (Own.rd _ RA);obtain⟨o2,c2,rfl,_⟩:=Bf (Own.rd _ RL);obtain⟨o_0,c_0,rfl,_⟩:=Bf (Own.rd _ R0);obtain⟨o_1,c_1,rfl,_⟩:=Bf (Own.rd _ R1);have g_RA:g<w1.heap.size:=by omega
 have u_RA:w2.heap.size≤w2.heap.size:=by omega
 have lt_B2_RA:w.heap.size<w1.heap.size:=by omega
 have lt_B3_RA:(w.heap.size+1)<w1.heap.size:=by omega
 have g_RL:g<w1.heap.size:=by omega
 have u_RL:w2.heap.size≤w2.heap.size:=by omega
 have lt_B2_RL:w.heap.size<w1.heap.size:=by omega
 have lt_B3_RL:(w.heap.size+1)<w1.heap.size:=by omega
 have g_R0:g<w1.heap.size:=by omega
 have u_R0:w2.heap.size≤w2.heap.size:=by omega
 have lt_B2_R0:w.heap.size<w1.heap.size:=by omega
 have lt_B3_R0:(w.heap.size+1)<w1.heap.size:=by omega
 have g_R1:g<w1.heap.size:=by omega
 have u_R1:w2.heap.size≤w2.heap.size:=by omega
 have lt_B2_R1:w.heap.size<w1.heap.size:=by omega
 have lt_B3_R1:(w.heap.size+1)<w1.heap.size:=by omega
 clear hzq hcq hbs ltq_B2 ltq_B3;have cb_B2:=blk2 B2;have cb_B3:=blk10 B3
 go_upto_region 3 with (fail)
 clear cb_B2 cb_B3;obtain⟨hxa,BB⟩:=ea2 w2 (.cells #[.slice o1 t.ases.length c1,.slice o2 t.links.length c2] 27) (.cells #[.int .i64 x.kind,.int .i64 x.src,.int .i64 x.dst,.slice o_0 x.path.parts.length c_0,.int .i64 x.pi,.int .i64 x.hi,.int .i64 x.beta,.int .i64 x.rid,.int .i64 x.seq,.slice o_1 x.pay.length c_1] 35)
 obtain⟨b7,eb7⟩:∃ b,b=w2.heap.size:=⟨_,rfl⟩
 have ltw_b7:w1.heap.size≤b7:=by rw [eb7];exact s.x.size
 have lt_B2_b7:w.heap.size<b7:=by rw [eb7];exact blk_lt B2
 have lt_B3_b7:(w.heap.size+1)<b7:=by rw [eb7];exact blk_lt B3
 have hb_RA_b7:w2.heap.size≤b7:=by rw [eb7];exact u_RA
 have hb_RL_b7:w2.heap.size≤b7:=by rw [eb7];exact u_RL
 have hb_R0_b7:w2.heap.size≤b7:=by rw [eb7];exact u_R0
 have hb_R1_b7:w2.heap.size≤b7:=by rw [eb7];exact u_R1
 replace B2:=Aa hxa B2;replace B3:=Aa hxa B3;replace RA:=Aj RA hxa;replace u_RA:=Ad u_RA hxa.size;replace RL:=Aj RL hxa;replace u_RL:=Ad u_RL hxa.size;replace R0:=Aj R0 hxa;replace u_R0:=Ad u_R0 hxa.size;replace R1:=Aj R1 hxa;replace u_R1:=Ad u_R1 hxa.size;replace s:=s.ext hxa;have B7:=BB.1;have B8:=BB.2;rw [← eb7] at B7 B8;rw [← eb7];clear hxa BB;generalize ((w2.alloc (.cells #[.slice o1 t.ases.length c1,.slice o2 t.links.length c2] 27)).alloc (.cells #[.int .i64 x.kind,.int .i64 x.src,.int .i64 x.dst,.slice o_0 x.path.parts.length c_0,.int .i64 x.pi,.int .i64 x.hi,.int .i64 x.beta,.int .i64 x.rid,.int .i64 x.seq,.slice o_1 x.pay.length c_1] 35))=wa at B2 B3 B7 B8 RA RL R0 R1 u_RA u_RL u_R0 u_R1 s ⊢
 clear eb7;have cb_B2:=blk2 B2;have cb_B3:=blk10 B3;have cb_B7:=blk2 B7;have cb_B8:=blk10 B8
 go_wp2_with fail
 clear cb_B2 cb_B3 cb_B7 cb_B8;refine(s_l1Once g (4) _ _ _ s.c).mono ?_;rintro e w3 ⟨b1,rfl,hcq,hzq⟩;replace B2:=hzq.blkS B2 (by unfold at1;omega);replace B3:=hzq.blkS B3 (by unfold at1;omega);replace B7:=hzq.blkS B7 (by unfold at1;omega);replace B8:=hzq.blkS B8 (by unfold at1;omega);replace RA:=Af RA hzq (.inl g_RA);replace u_RA:=Ad u_RA hzq.size;replace RL:=Af RL hzq (.inl g_RL);replace u_RL:=Ad u_RL hzq.size;replace R0:=Af R0 hzq (.inl g_R0);replace u_R0:=Ad u_R0 hzq.size;replace R1:=Af R1 hzq (.inl g_R1);replace u_R1:=Ad u_R1 hzq.size;replace s:=s.draw hcq hzq;clear hzq hcq;have HTK:=Ac TK;have cb_B2:=blk2 B2;have cb_B3:=blk10 B3;have cb_B7:=blk2 B7;have cb_B8:=blk10 B8
 go_upto_if 19 with (fail)
 clear cb_B2 cb_B3 cb_B7 cb_B8
 go_cut [] (fun  wx=>∃ (tq:Topo) (xq:Pkt) (o1q:Option Addr) (c1q:Nat) (o2q:Option Addr) (c2q:Nat) (o_0q:Option Addr) (c_0q:Nat) (o_1q:Option Addr) (c_1q:Nat) (lo:Nat) (hi:Nat),(TopoOk tq)∧(PktBd xq)∧(g<lo)∧(w.heap.size+1<lo)∧wx.heap[w.heap.size]?=some (.cells #[.slice none 0 0,.slice none 0 0] 27 (0,0))∧wx.heap[(w.heap.size+1)]?=some (.cells #[.int .i64 0,.int .i64 0,.int .i64 0,.slice none 0 0,.int .i64 0,.int .i64 0,.int .i64 0,.int .i64 0,.int .i64 0,.slice none 0 0] 35 (0,0))∧wx.heap[b7]?=some (.cells #[.slice o1q tq.ases.length c1q,.slice o2q tq.links.length c2q] 27 (0,0))∧wx.heap[(b7+1)]?=some (.cells #[.int .i64 xq.kind,.int .i64 xq.src,.int .i64 xq.dst,.slice o_0q xq.path.parts.length c_0q,.int .i64 xq.pi,.int .i64 xq.hi,.int .i64 xq.beta,.int .i64 xq.rid,.int .i64 xq.seq,.slice o_1q xq.pay.length c_1q] 35 (0,0))∧((Own.keep ASd.rep).own (rng lo hi) wx (.slice o1q tq.ases.length c1q) tq.ases∧hi≤wx.heap.size)∧((Own.keep Lnk.rep).own (rng lo hi) wx (.slice o2q tq.links.length c2q) tq.links∧hi≤wx.heap.size)∧((Own.keep Part.rep).own (rng lo hi) wx (.slice o_0q xq.path.parts.length c_0q) xq.path.parts∧hi≤wx.heap.size)∧((Own.keep Rep.byte).own (rng lo hi) wx (.slice o_1q xq.pay.length c_1q) xq.pay∧hi≤wx.heap.size)∧Cur g cv code wx∧Chg (at1 g) w1 wx)
 case first=>
  cases b1
  case false=>
   go_wp2_with fail
   go_meet
   exact⟨t,x,_,_,_,_,_,_,_,_,_,_,TK,hxb,g_RA,lt_B3_RA,B2,B3,B7,B8,⟨RA,u_RA⟩,⟨RL,u_RL⟩,⟨R0,u_R0⟩,⟨R1,u_R1⟩,s.c,s.x⟩
  case true=>
   have cb_B2:=blk2 B2;have cb_B3:=blk10 B3;have cb_B7:=blk2 B7;have cb_B8:=blk10 B8
   go_wp2_with fail
   clear cb_B2 cb_B3 cb_B7 cb_B8;have hbs:w1.heap.size≤w3.heap.size:=s.x.size;have ltq_B2:w.heap.size<w3.heap.size:=blk_lt B2;have ltq_B3:(w.heap.size+1)<w3.heap.size:=blk_lt B3;have ltq_B7:b7<w3.heap.size:=blk_lt B7;have ltq_B8:(b7+1)<w3.heap.size:=blk_lt B8;refine(s_l26Any g _ _ _ s.c).mono ?_;rintro e w4 ⟨v1n,v2n,u0n,u1n,tn,xn,rfl,TKn,hxbn,RAn,RLn,R0n,R1n,hcq,hzq⟩;replace B2:=hzq.blkS B2 (by unfold at1;omega);replace B3:=hzq.blkS B3 (by unfold at1;omega);replace B7:=hzq.blkS B7 (by unfold at1;omega);replace B8:=hzq.blkS B8 (by unfold at1;omega);replace RA:=Af RA hzq (.inl g_RA);replace u_RA:=Ad u_RA hzq.size;replace RL:=Af RL hzq (.inl g_RL);replace u_RL:=Ad u_RL hzq.size;replace R0:=Af R0 hzq (.inl g_R0);replace u_R0:=Ad u_R0 hzq.size;replace R1:=Af R1 hzq (.inl g_R1);replace u_R1:=Ad u_R1 hzq.size;replace s:=s.draw hcq hzq;obtain⟨o1n,c1n,rfl,_⟩:=Bf (Own.rd _ RAn);obtain⟨o2n,c2n,rfl,_⟩:=Bf (Own.rd _ RLn);obtain⟨o_0n,c_0n,rfl,_⟩:=Bf (Own.rd _ R0n);obtain⟨o_1n,c_1n,rfl,_⟩:=Bf (Own.rd _ R1n);have g_RAn:g<w3.heap.size:=by omega
   have u_RAn:w4.heap.size≤w4.heap.size:=by omega
   have lt_B2_RAn:w.heap.size<w3.heap.size:=by omega
   have lt_B3_RAn:(w.heap.size+1)<w3.heap.size:=by omega
   have lt_B7_RAn:b7<w3.heap.size:=by omega
   have lt_B8_RAn:(b7+1)<w3.heap.size:=by omega
   have g_RLn:g<w3.heap.size:=by omega
   have u_RLn:w4.heap.size≤w4.heap.size:=by omega
   have lt_B2_RLn:w.heap.size<w3.heap.size:=by omega
   have lt_B3_RLn:(w.heap.size+1)<w3.heap.size:=by omega
   have lt_B7_RLn:b7<w3.heap.size:=by omega
   have lt_B8_RLn:(b7+1)<w3.heap.size:=by omega
   have g_R0n:g<w3.heap.size:=by omega
   have u_R0n:w4.heap.size≤w4.heap.size:=by omega
   have lt_B2_R0n:w.heap.size<w3.heap.size:=by omega
   have lt_B3_R0n:(w.heap.size+1)<w3.heap.size:=by omega
   have lt_B7_R0n:b7<w3.heap.size:=by omega
   have lt_B8_R0n:(b7+1)<w3.heap.size:=by omega
   have g_R1n:g<w3.heap.size:=by omega
   have u_R1n:w4.heap.size≤w4.heap.size:=by omega
   have lt_B2_R1n:w.heap.size<w3.heap.size:=by omega
   have lt_B3_R1n:(w.heap.size+1)<w3.heap.size:=by omega
   have lt_B7_R1n:b7<w3.heap.size:=by omega
   have lt_B8_R1n:(b7+1)<w3.heap.size:=by omega
   clear hzq hcq hbs ltq_B2 ltq_B3 ltq_B7 ltq_B8;obtain⟨wpc,hwc,hbc,hcc⟩:=two_set B7 (.slice o1n tn.ases.length c1n) (.slice o2n tn.links.length c2n);have HWc:=Ac hwc;clear hwc;have fc0:=fr2 B7;have fk0:=fr10 B8;have cb_B2:=blk2 B2;have cb_B3:=blk10 B3;have cb_B7:=blk2 B7;have cb_B8:=blk10 B8
   go_wp2_with fail
   clear cb_B2 cb_B3 cb_B7 cb_B8;rw [← HWc.out];clear HWc fc0 fk0;replace RA:=Af RA hcc (by omega);replace u_RA:=Ad u_RA hcc.size;replace RL:=Af RL hcc (by omega);replace u_RL:=Ad u_RL hcc.size;replace R0:=Af R0 hcc (by omega);replace u_R0:=Ad u_R0 hcc.size;replace R1:=Af R1 hcc (by omega);replace u_R1:=Ad u_R1 hcc.size;replace RAn:=Af RAn hcc (by omega);replace u_RAn:=Ad u_RAn hcc.size;replace RLn:=Af RLn hcc (by omega);replace u_RLn:=Ad u_RLn hcc.size;replace R0n:=Af R0n hcc (by omega);replace u_R0n:=Ad u_R0n hcc.size;replace R1n:=Af R1n hcc (by omega);replace u_R1n:=Ad u_R1n hcc.size;replace B2:=hcc.blkS B2 (by unfold at1;omega);replace B3:=hcc.blkS B3 (by unfold at1;omega);replace B8:=hcc.blkS B8 (by unfold at1;omega);replace B7:=hbc;clear hbc;replace s:=s.put hcc (fun i hi=>by have h1:i=b7:=hi;omega)
   try clear hcc
   obtain⟨wpd,hwd,hbd,hcd⟩:=ten_set B8 (.int .i64 xn.kind) (.int .i64 xn.src) (.int .i64 xn.dst) (.slice o_0n xn.path.parts.length c_0n) (.int .i64 xn.pi) (.int .i64 xn.hi) (.int .i64 xn.beta) (.int .i64 xn.rid) (.int .i64 xn.seq) (.slice o_1n xn.pay.length c_1n);rw [← hwd];clear hwd;replace RA:=Af RA hcd (by omega);replace u_RA:=Ad u_RA hcd.size;replace RL:=Af RL hcd (by omega);replace u_RL:=Ad u_RL hcd.size;replace R0:=Af R0 hcd (by omega);replace u_R0:=Ad u_R0 hcd.size;replace R1:=Af R1 hcd (by omega);replace u_R1:=Ad u_R1 hcd.size;replace RAn:=Af RAn hcd (by omega);replace u_RAn:=Ad u_RAn hcd.size;replace RLn:=Af RLn hcd (by omega);replace u_RLn:=Ad u_RLn hcd.size;replace R0n:=Af R0n hcd (by omega);replace u_R0n:=Ad u_R0n hcd.size;replace R1n:=Af R1n hcd (by omega);replace u_R1n:=Ad u_R1n hcd.size;replace B2:=hcd.blkS B2 (by unfold at1;omega);replace B3:=hcd.blkS B3 (by unfold at1;omega);replace B7:=hcd.blkS B7 (by unfold at1;omega);replace B8:=hbd;clear hbd;replace s:=s.put hcd (fun i hi=>by have h1:i=(b7+1):=hi;omega)
   try clear hcd
   go_wp2_with fail
   go_meet
   exact⟨tn,xn,_,_,_,_,_,_,_,_,_,_,TKn,hxbn,g_RAn,lt_B3_RAn,B2,B3,B7,B8,⟨RAn,u_RAn⟩,⟨RLn,u_RLn⟩,⟨R0n,u_R0n⟩,⟨R1n,u_R1n⟩,s.c,s.x⟩
 case rest=>
  have hc0z:=s.c0;clear s B2 B3 B7 B8 RA RL R0 R1 u_RA u_RL u_R0 u_R1;obtain⟨tq,xq,o1q,c1q,o2q,c2q,o_0q,c_0q,o_1q,c_1q,lo,hi,TKq,hxbq,hlo1,hlo2,B2,B3,B7,B8,⟨RA,u_RA⟩,⟨RL,u_RL⟩,⟨R0,u_R0⟩,⟨R1,u_R1⟩,hcC,hcX⟩:=hcut
  obtain⟨wz1,hwz⟩:∃ wz:World,wz=wc:=⟨_,rfl⟩
  subst hwz
  have s:DSt g cv code w1 wz1:=⟨hcC,hcX,hc0z⟩
  clear hcC hcX hc0z;clear g_RA lt_B2_RA lt_B3_RA;clear g_RL lt_B2_RL lt_B3_RL;clear g_R0 lt_B2_R0 lt_B3_R0;clear g_R1 lt_B2_R1 lt_B3_R1;have g_RA:g<lo:=by omega
  have lt_B2_RA:w.heap.size<lo:=by omega
  have lt_B3_RA:w.heap.size+1<lo:=by omega
  have g_RL:g<lo:=by omega
  have lt_B2_RL:w.heap.size<lo:=by omega
  have lt_B3_RL:w.heap.size+1<lo:=by omega
  have g_R0:g<lo:=by omega
  have lt_B2_R0:w.heap.size<lo:=by omega
  have lt_B3_R0:w.heap.size+1<lo:=by omega
  have g_R1:g<lo:=by omega
  have lt_B2_R1:w.heap.size<lo:=by omega
  have lt_B3_R1:w.heap.size+1<lo:=by omega
  have cb_B2:=blk2 B2;have cb_B3:=blk10 B3;have cb_B7:=blk2 B7;have cb_B8:=blk10 B8
  go_upto_region 6 with (fail)
  clear cb_B2 cb_B3 cb_B7 cb_B8;have hlf:=TKq.few;have hxe0:Ext wz1 (wz1.alloc (.cells #[] 3)):=(Ab _).alloc _;have RD0:=Bj intF 1 wz1.heap.size 3 wz1 (Ae _);have hbs0:w1.heap.size≤wz1.heap.size:=s.x.size;have ltd_B2:w.heap.size<wz1.heap.size:=blk_lt B2;have ltd_B3:(w.heap.size+1)<wz1.heap.size:=blk_lt B3;have ltd_B7:b7<wz1.heap.size:=blk_lt B7;have ltd_B8:(b7+1)<wz1.heap.size:=blk_lt B8;replace B2:=Aa hxe0 B2;replace B3:=Aa hxe0 B3;replace B7:=Aa hxe0 B7;replace B8:=Aa hxe0 B8;replace RA:=Aj RA hxe0;replace u_RA:=Ad u_RA hxe0.size;replace RL:=Aj RL hxe0;replace u_RL:=Ad u_RL hxe0.size;replace R0:=Aj R0 hxe0;replace u_R0:=Ad u_R0 hxe0.size;replace R1:=Aj R1 hxe0;replace u_R1:=Ad u_R1 hxe0.size;replace s:=s.ext hxe0
  obtain⟨bd,ebd⟩:∃ b,b=wz1.heap.size:=⟨_,rfl⟩
  rw [← ebd] at RD0 hbs0 ltd_B2 ltd_B3 ltd_B7 ltd_B8 ⊢
  clear hxe0;generalize (wz1.alloc (.cells #[] 3))=wb at B2 B3 B7 B8 RA RL R0 R1 u_RA u_RL u_R0 u_R1 s RD0 ⊢
  clear ebd;have RD:=Be (Own.ofFr (hf:=intFlen) RD0 (Ae _));clear RD0;have g_RD:g<bd:=by omega
  have u_RD:wb.heap.size≤wb.heap.size:=Ae _;have lt_B2_RD:w.heap.size<bd:=by omega
  have lt_B3_RD:(w.heap.size+1)<bd:=by omega
  have lt_B7_RD:b7<bd:=by omega
  have lt_B8_RD:(b7+1)<bd:=by omega
  have cb_B2:=blk2 B2;have cb_B3:=blk10 B3;have cb_B7:=blk2 B7;have cb_B8:=blk10 B8
  go_wp2_with fail
  clear cb_B2 cb_B3 cb_B7 cb_B8;refine(s_l1Once g (4) _ _ _ s.c).mono ?_;rintro e w4 ⟨b2,rfl,hcq,hzq⟩;replace B2:=hzq.blkS B2 (by unfold at1;omega);replace B3:=hzq.blkS B3 (by unfold at1;omega);replace B7:=hzq.blkS B7 (by unfold at1;omega);replace B8:=hzq.blkS B8 (by unfold at1;omega);replace RA:=Af RA hzq (.inl g_RA);replace u_RA:=Ad u_RA hzq.size;replace RL:=Af RL hzq (.inl g_RL);replace u_RL:=Ad u_RL hzq.size;replace R0:=Af R0 hzq (.inl g_R0);replace u_R0:=Ad u_R0 hzq.size;replace R1:=Af R1 hzq (.inl g_R1);replace u_R1:=Ad u_R1 hzq.size;replace RD:=Af RD hzq (.inl g_RD);replace u_RD:=Ad u_RD hzq.size;replace s:=s.draw hcq hzq;clear hzq hcq;have cb_B2:=blk2 B2;have cb_B3:=blk10 B3;have cb_B7:=blk2 B7;have cb_B8:=blk10 B8
  go_upto_if 27 with (fail)
  clear cb_B2 cb_B3 cb_B7 cb_B8
  go_cut [9] (fun v9 wx=>∃ (vd:Value) (dead:List Int) (lod:Nat) (hid_:Nat),(v9=vd)∧(dead.length≤64)∧(g<lod)∧(w.heap.size+1<lod)∧wx.heap[w.heap.size]?=some (.cells #[.slice none 0 0,.slice none 0 0] 27 (0,0))∧wx.heap[(w.heap.size+1)]?=some (.cells #[.int .i64 0,.int .i64 0,.int .i64 0,.slice none 0 0,.int .i64 0,.int .i64 0,.int .i64 0,.int .i64 0,.int .i64 0,.slice none 0 0] 35 (0,0))∧wx.heap[b7]?=some (.cells #[.slice o1q tq.ases.length c1q,.slice o2q tq.links.length c2q] 27 (0,0))∧wx.heap[(b7+1)]?=some (.cells #[.int .i64 xq.kind,.int .i64 xq.src,.int .i64 xq.dst,.slice o_0q xq.path.parts.length c_0q,.int .i64 xq.pi,.int .i64 xq.hi,.int .i64 xq.beta,.int .i64 xq.rid,.int .i64 xq.seq,.slice o_1q xq.pay.length c_1q] 35 (0,0))∧((Own.keep ASd.rep).own (rng lo hi) wx (.slice o1q tq.ases.length c1q) tq.ases∧hi≤wx.heap.size)∧((Own.keep Lnk.rep).own (rng lo hi) wx (.slice o2q tq.links.length c2q) tq.links∧hi≤wx.heap.size)∧((Own.keep Part.rep).own (rng lo hi) wx (.slice o_0q xq.path.parts.length c_0q) xq.path.parts∧hi≤wx.heap.size)∧((Own.keep Rep.byte).own (rng lo hi) wx (.slice o_1q xq.pay.length c_1q) xq.pay∧hi≤wx.heap.size)∧((Own.keep Rep.int).own (rng lod hid_) wx vd dead∧hid_≤wx.heap.size)∧Cur g cv code wx∧Chg (at1 g) w1 wx)
  case first=>
   cases b2
   case false=>
    go_wp2_with fail
    go_meet
    exact⟨_,[],_,_,rfl,by simp,g_RD,lt_B3_RD,B2,B3,B7,B8,⟨RA,u_RA⟩,⟨RL,u_RL⟩,⟨R0,u_R0⟩,⟨R1,u_R1⟩,⟨RD,u_RD⟩,s.c,s.x⟩
   case true=>
    clear RD u_RD g_RD;have cb_B2:=blk2 B2;have cb_B3:=blk10 B3;have cb_B7:=blk2 B7;have cb_B8:=blk10 B8
    go_wp2_with fail
    clear cb_B2 cb_B3 cb_B7 cb_B8;have hbs:w1.heap.size≤w4.heap.size:=s.x.size;have ltq_B2:w.heap.size<w4.heap.size:=blk_lt B2;have ltq_B3:(w.heap.size+1)<w4.heap.size:=blk_lt B3;have ltq_B7:b7<w4.heap.size:=blk_lt B7;have ltq_B8:(b7+1)<w4.heap.size:=blk_lt B8;refine(s_l29Dead g tq _ _ _ _ _ _ s.c (by omega)).mono ?_;rintro e w5 ⟨vd,dead,rfl,hdl0,oD,hcq,hzq⟩;replace B2:=hzq.blkS B2 (by unfold at1;omega);replace B3:=hzq.blkS B3 (by unfold at1;omega);replace B7:=hzq.blkS B7 (by unfold at1;omega);replace B8:=hzq.blkS B8 (by unfold at1;omega);replace RA:=Af RA hzq (.inl g_RA);replace u_RA:=Ad u_RA hzq.size;replace RL:=Af RL hzq (.inl g_RL);replace u_RL:=Ad u_RL hzq.size;replace R0:=Af R0 hzq (.inl g_R0);replace u_R0:=Ad u_R0 hzq.size;replace R1:=Af R1 hzq (.inl g_R1);replace u_R1:=Ad u_R1 hzq.size;replace s:=s.draw hcq hzq;have hdl:=Ad hdl0 hlf;clear hdl0;have RE:=Be (Own.ofFr (hf:=intFlen) oD (Ae _));clear oD;have g_RE:g<w4.heap.size:=by omega
    have u_RE:w5.heap.size≤w5.heap.size:=by omega
    have lt_B2_RE:w.heap.size<w4.heap.size:=by omega
    have lt_B3_RE:(w.heap.size+1)<w4.heap.size:=by omega
    have lt_B7_RE:b7<w4.heap.size:=by omega
    have lt_B8_RE:(b7+1)<w4.heap.size:=by omega
    clear hzq hcq hbs ltq_B2 ltq_B3 ltq_B7 ltq_B8
    go_wp2_with fail
    go_meet
    exact⟨_,dead,_,_,rfl,hdl,g_RE,lt_B3_RE,B2,B3,B7,B8,⟨RA,u_RA⟩,⟨RL,u_RL⟩,⟨R0,u_R0⟩,⟨R1,u_R1⟩,⟨RE,u_RE⟩,s.c,s.x⟩
  case rest=>
   have hc0z:=s.c0;clear s B2 B3 B7 B8 RA RL R0 R1 RD u_RA u_RL u_R0 u_R1 u_RD;obtain⟨vd,dead,lod,hid_,hv9,hdl,hld1,hld2,B2,B3,B7,B8,⟨RA,u_RA⟩,⟨RL,u_RL⟩,⟨R0,u_R0⟩,⟨R1,u_R1⟩,⟨RD,u_RD⟩,hcC,hcX⟩:=hcut
   obtain⟨wz2,hwz⟩:∃ wz:World,wz=wc:=⟨_,rfl⟩
   subst hwz
   have s:DSt g cv code w1 wz2:=⟨hcC,hcX,hc0z⟩
   clear hcC hcX hc0z;subst hv9;clear g_RD lt_B2_RD lt_B3_RD lt_B7_RD lt_B8_RD;have g_RD:g<lod:=hld1;have lt_B2_RD:w.heap.size<lod:=by omega
   have lt_B3_RD:w.heap.size+1<lod:=hld2;obtain⟨o_d,c_d,rfl,_⟩:=Bf (Own.rd _ RD);have cb_B2:=blk2 B2;have cb_B3:=blk10 B3;have cb_B7:=blk2 B7;have cb_B8:=blk10 B8
   go_wp2_with fail
   clear cb_B2 cb_B3 cb_B7 cb_B8;refine(s_l1Once g (8) _ _ _ s.c).mono ?_;rintro e w5 ⟨b3,rfl,hcq,hzq⟩;replace B2:=hzq.blkS B2 (by unfold at1;omega);replace B3:=hzq.blkS B3 (by unfold at1;omega);replace B7:=hzq.blkS B7 (by unfold at1;omega);replace B8:=hzq.blkS B8 (by unfold at1;omega);replace RA:=Af RA hzq (.inl g_RA);replace u_RA:=Ad u_RA hzq.size;replace RL:=Af RL hzq (.inl g_RL);replace u_RL:=Ad u_RL hzq.size;replace R0:=Af R0 hzq (.inl g_R0);replace u_R0:=Ad u_R0 hzq.size;replace R1:=Af R1 hzq (.inl g_R1);replace u_R1:=Ad u_R1 hzq.size;replace RD:=Af RD hzq (.inl g_RD);replace u_RD:=Ad u_RD hzq.size;replace s:=s.draw hcq hzq;clear hzq hcq;have cb_B2:=blk2 B2;have cb_B3:=blk10 B3;have cb_B7:=blk2 B7;have cb_B8:=blk10 B8
   go_upto_if 32 with (fail)
   clear cb_B2 cb_B3 cb_B7 cb_B8
   go_cut [10] (fun v10 wx=>∃ (nw:Int),(v10=.int .i64 nw)∧wx.heap[w.heap.size]?=some (.cells #[.slice none 0 0,.slice none 0 0] 27 (0,0))∧wx.heap[(w.heap.size+1)]?=some (.cells #[.int .i64 0,.int .i64 0,.int .i64 0,.slice none 0 0,.int .i64 0,.int .i64 0,.int .i64 0,.int .i64 0,.int .i64 0,.slice none 0 0] 35 (0,0))∧wx.heap[b7]?=some (.cells #[.slice o1q tq.ases.length c1q,.slice o2q tq.links.length c2q] 27 (0,0))∧wx.heap[(b7+1)]?=some (.cells #[.int .i64 xq.kind,.int .i64 xq.src,.int .i64 xq.dst,.slice o_0q xq.path.parts.length c_0q,.int .i64 xq.pi,.int .i64 xq.hi,.int .i64 xq.beta,.int .i64 xq.rid,.int .i64 xq.seq,.slice o_1q xq.pay.length c_1q] 35 (0,0))∧((Own.keep ASd.rep).own (rng lo hi) wx (.slice o1q tq.ases.length c1q) tq.ases∧hi≤wx.heap.size)∧((Own.keep Lnk.rep).own (rng lo hi) wx (.slice o2q tq.links.length c2q) tq.links∧hi≤wx.heap.size)∧((Own.keep Part.rep).own (rng lo hi) wx (.slice o_0q xq.path.parts.length c_0q) xq.path.parts∧hi≤wx.heap.size)∧((Own.keep Rep.byte).own (rng lo hi) wx (.slice o_1q xq.pay.length c_1q) xq.pay∧hi≤wx.heap.size)∧((Own.keep Rep.int).own (rng lod hid_) wx (.slice o_d dead.length c_d) dead∧hid_≤wx.heap.size)∧Cur g cv code wx∧Chg (at1 g) w1 wx)
   case first=>
    cases b3
    case false=>
     go_wp2_with fail
     go_meet
     exact⟨50,rfl,B2,B3,B7,B8,⟨RA,u_RA⟩,⟨RL,u_RL⟩,⟨R0,u_R0⟩,⟨R1,u_R1⟩,⟨RD,u_RD⟩,s.c,s.x⟩
    case true=>
     have cb_B2:=blk2 B2;have cb_B3:=blk10 B3;have cb_B7:=blk2 B7;have cb_B8:=blk10 B8
     go_wp2_with fail
     clear cb_B2 cb_B3 cb_B7 cb_B8;refine(s_l1Below g (120) _ _ _ s.c).mono ?_;rintro e w6 ⟨nw,rfl,hnw0,hnw1,hcq,hzq⟩;replace B2:=hzq.blkS B2 (by unfold at1;omega);replace B3:=hzq.blkS B3 (by unfold at1;omega);replace B7:=hzq.blkS B7 (by unfold at1;omega);replace B8:=hzq.blkS B8 (by unfold at1;omega);replace RA:=Af RA hzq (.inl g_RA);replace u_RA:=Ad u_RA hzq.size;replace RL:=Af RL hzq (.inl g_RL);replace u_RL:=Ad u_RL hzq.size;replace R0:=Af R0 hzq (.inl g_R0);replace u_R0:=Ad u_R0 hzq.size;replace R1:=Af R1 hzq (.inl g_R1);replace u_R1:=Ad u_R1 hzq.size;replace RD:=Af RD hzq (.inl g_RD);replace u_RD:=Ad u_RD hzq.size;replace s:=s.draw hcq hzq;clear hzq hcq
     go_wp2_with fail
     go_meet
     exact⟨nw,rfl,B2,B3,B7,B8,⟨RA,u_RA⟩,⟨RL,u_RL⟩,⟨R0,u_R0⟩,⟨R1,u_R1⟩,⟨RD,u_RD⟩,s.c,s.x⟩
   case rest=>
    have hc0z:=s.c0;clear s B2 B3 B7 B8 RA RL R0 R1 RD u_RA u_RL u_R0 u_R1 u_RD;obtain⟨nw,hv10,B2,B3,B7,B8,⟨RA,u_RA⟩,⟨RL,u_RL⟩,⟨R0,u_R0⟩,⟨R1,u_R1⟩,⟨RD,u_RD⟩,hcC,hcX⟩:=hcut
    obtain⟨wz3,hwz⟩:∃ wz:World,wz=wc:=⟨_,rfl⟩
    subst hwz
    have s:DSt g cv code w1 wz3:=⟨hcC,hcX,hc0z⟩
    clear hcC hcX hc0z;subst hv10
    go_upto_region 11 with (fail)
    refine Bl (at1 w.heap.size) [([0,1,2,3],4)] [5,6] [7] (by kernel_rfl) (by kernel_rfl) (by kernel_rfl) ?_;have ch_B7:=blk2 B7;have q0:=Cj (S:=at1 w.heap.size) ch_B7 (by first | omega | (unfold at1;omega) | (simp only;omega));clear ch_B7;have ch_B8:=blk10 B8;have q2:=ChgSW.c10 (S:=at1 w.heap.size) ch_B8 (by first | omega | (unfold at1;omega) | (simp only;omega));clear ch_B8;simp only [wpBlocksX,pickOps,PK];have hch:Chg (at1 w.heap.size) wz3 wz3.drew:=Ar (Ab wz3).drew;replace B2:=Aa ((Ab wz3).drew) B2;replace B3:=Aa ((Ab wz3).drew) B3;replace B7:=Aa ((Ab wz3).drew) B7;replace B8:=Aa ((Ab wz3).drew) B8;replace RA:=Aj RA ((Ab wz3).drew);replace u_RA:=Ad u_RA ((Ab wz3).drew).size;replace RL:=Aj RL ((Ab wz3).drew);replace u_RL:=Ad u_RL ((Ab wz3).drew).size;replace R0:=Aj R0 ((Ab wz3).drew);replace u_R0:=Ad u_R0 ((Ab wz3).drew).size;replace R1:=Aj R1 ((Ab wz3).drew);replace u_R1:=Ad u_R1 ((Ab wz3).drew).size;replace RD:=Aj RD ((Ab wz3).drew);replace u_RD:=Ad u_RD ((Ab wz3).drew).size;replace s:=s.ext ((Ab wz3).drew)
    obtain⟨wt,hnw⟩:∃ wn,wn=wz3.drew:=⟨_,rfl⟩
    rw [← hnw] at B2 B3 B7 B8 RA RL R0 R1 RD u_RA u_RL u_R0 u_R1 u_RD s hch ⊢
    clear hnw
    repeat (first | go_big_quiet_step (fail) | quiet_step (fail))
    refine wpQuiet_nil ?_;have hxe:=hx0.trans (hn1.ofCur s.x hgl);obtain⟨wpa,hwa,hba,hca⟩:=two_set B2 (.slice o1q tq.ases.length c1q) (.slice o2q tq.links.length c2q);have HWa:=Ac hwa;clear hwa;have ff0:=fr2 B2;have cb:=blk2 B2
    go_wp2_with fail
    rw [← HWa.out];clear HWa cb ff0;replace hch:=hch.trans (hca.mono (fun b h=>h));refine⟨⟨⟨_,hch⟩,rfl⟩,?_⟩;replace RA:=Af RA hca (by omega);replace u_RA:=Ad u_RA hca.size;replace RL:=Af RL hca (by omega);replace u_RL:=Ad u_RL hca.size;replace R0:=Af R0 hca (by omega);replace u_R0:=Ad u_R0 hca.size;replace R1:=Af R1 hca (by omega);replace u_R1:=Ad u_R1 hca.size;replace RD:=Af RD hca (by omega);replace u_RD:=Ad u_RD hca.size;replace B3:=hca.blkS B3 (by unfold at1;omega);replace B7:=hca.blkS B7 (by unfold at1;omega);replace B8:=hca.blkS B8 (by unfold at1;omega);replace B2:=hba;clear hba;replace hxe:=hxe.chg hca (fun i hi=>by have h1:i=w.heap.size:=hi;omega)
    try clear hca
    repeat (first | go_big_quiet_step (fail) | quiet_step (fail))
    refine wpQuiet_nil ?_;obtain⟨wpb,hwb,hbb,hcb⟩:=ten_set B3 (.int .i64 xq.kind) (.int .i64 xq.src) (.int .i64 xq.dst) (.slice o_0q xq.path.parts.length c_0q) (.int .i64 xq.pi) (.int .i64 xq.hi) (.int .i64 xq.beta) (.int .i64 xq.rid) (.int .i64 xq.seq) (.slice o_1q xq.pay.length c_1q);have HWb:=Ac hwb;clear hwb;have ff0:=fr10 B3;have cb:=blk10 B3
    go_wp2_with fail
    rw [← HWb.out];clear HWb cb ff0;replace RA:=Af RA hcb (by omega);replace u_RA:=Ad u_RA hcb.size;replace RL:=Af RL hcb (by omega);replace u_RL:=Ad u_RL hcb.size;replace R0:=Af R0 hcb (by omega);replace u_R0:=Ad u_R0 hcb.size;replace R1:=Af R1 hcb (by omega);replace u_R1:=Ad u_R1 hcb.size;replace RD:=Af RD hcb (by omega);replace u_RD:=Ad u_RD hcb.size;replace B2:=hcb.blkS B2 (by unfold at1;omega);replace B7:=hcb.blkS B7 (by unfold at1;omega);replace B8:=hcb.blkS B8 (by unfold at1;omega);replace B3:=hbb;clear hbb;replace hxe:=hxe.chg hcb (fun i hi=>by have h1:i=(w.heap.size+1):=hi;omega)
    try clear hcb
    refine NoPanic.normal ?_;clear hch q0 q2;have cr_B2:=blk2 B2;have cr_B3:=blk10 B3;have cr_B7:=blk2 B7;have cr_B8:=blk10 B8;have hwb:=(hx0.trans hn1).size
    go_wp2_with fail
    refine bodyPost_ret (by simp [results,Tryz.results7,go_sem,cr_B2,cr_B3] <;> rfl) rfl ?_;exact⟨_,_,_,_,_,tq,nw,dead,xq,rfl,TKq,hxbq,hdl,(Bg (Cd RA (by omega)) (Ae _)),(Bg (Cd RL (by omega)) (Ae _)),(Bg (Cd RD (by omega)) (Ae _)),(Bg (Cd R0 (by omega)) (Ae _)),(Bg (Cd R1 (by omega)) (Ae _)),hxe⟩
end
end Go.Proofs.YteodlcpeoaggbaaGreat
