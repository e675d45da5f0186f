/- What these laws need: FnOld: The draws of the code: books of segments, and paths out of them. -/
import Derived.Test.YteodlcpeoaggbaaGreatKV17
import Derived.Test.YteodlcpeoaggbaaGreatKV32
import Derived.Test.YteodlcpeoaggbaaGreatKV34
namespace Go.Proofs.YteodlcpeoaggbaaGreat
section
open Go.ChangeShapes Go.WideShapes Go.ChangeAt Go.RowKit Go.Deep
set_option maxRecDepth 100000
set_option maxHeartbeats 40000000
theorem s_l23Book (g:Nat)  (cv:Value) (cd:List Int) (w:World) (hc:Cur g cv cd w) :
  Calls Tryz.prog 76 #[.pointer (some ⟨g,0,none⟩)] w fun e w'=>∃ (v1 v2 vd vc:Value) (t:Topo) (D C:List Seg),e=.returned (.tuple #[.agg #[v1,v2],.agg #[vd,vc]])∧TopoOk t∧SegsBd 20 D∧SegsBd 20 C∧(0<D.length→∃ b c,(vd:Value)=.slice (some ⟨b,0,none⟩) D.length c∧g<b)∧(Own.keep ASd.rep).own (rng w.heap.size w'.heap.size) w' v1 t.ases∧(Own.keep Lnk.rep).own (rng w.heap.size w'.heap.size) w' v2 t.links∧(Own.keep Seg.rep).own (rng w.heap.size w'.heap.size) w' vd D∧(Own.keep Seg.rep).own (rng w.heap.size w'.heap.size) w' vc C∧Cur g cv cd w'∧Chg (at1 g) w w':=by
 obtain⟨hx0,HB⟩:=ea2 w (.cells #[.slice none 0 0,.slice none 0 0] 27) (.cells #[.slice none 0 0,.slice none 0 0] 108);have hgw:=hc.lt
 have s:DSt g cv cd w ((w.alloc (.cells #[.slice none 0 0,.slice none 0 0] 27)).alloc (.cells #[.slice none 0 0,.slice none 0 0] 108)):=⟨hc.ext hx0,Ar hx0,hc⟩
 have B2:=HB.1;have B3:=HB.2;clear HB hx0
 go_enter Tryz.func76,Tryz.ntmps76
 go_wp2_with fail
 have hbs:w.heap.size≤((w.alloc (.cells #[.slice none 0 0,.slice none 0 0] 27)).alloc (.cells #[.slice none 0 0,.slice none 0 0] 108)).heap.size:=s.x.size;have ltq_B2:w.heap.size<((w.alloc (.cells #[.slice none 0 0,.slice none 0 0] 27)).alloc (.cells #[.slice none 0 0,.slice none 0 0] 108)).heap.size:=blk_lt B2;have ltq_B3:(w.heap.size+1)<((w.alloc (.cells #[.slice none 0 0,.slice none 0 0] 27)).alloc (.cells #[.slice none 0 0,.slice none 0 0] 108)).heap.size:=blk_lt B3;refine(s_l5Draw g _ _ _ s.c).mono ?_;rintro e w1 ⟨v1,v2,t,rfl,TK,OA,OL,hcq,hzq⟩;replace B2:=hzq.blkS B2 (by unfold at1;omega);replace B3:=hzq.blkS B3 (by unfold at1;omega);replace s:=s.draw hcq hzq;have RA:(Own.keep ASd.rep).own (rng ((w.alloc (.cells #[.slice none 0 0,.slice none 0 0] 27)).alloc (.cells #[.slice none 0 0,.slice none 0 0] 108)).heap.size w1.heap.size) w1 v1 t.ases:=Be (Own.ofFr (hf:=ASd.flen) OA (Ae _));clear OA;have RL:(Own.keep Lnk.rep).own (rng ((w.alloc (.cells #[.slice none 0 0,.slice none 0 0] 27)).alloc (.cells #[.slice none 0 0,.slice none 0 0] 108)).heap.size w1.heap.size) w1 v2 t.links:=Be (Own.ofFr (hf:=Lnk.flen) OL (Ae _));clear OL;obtain⟨o1,c1,rfl,_⟩:=Bf (Own.rd _ RA)
 obtain⟨o2,c2,rfl,_⟩:=Bf (Own.rd _ RL);have g_RA:g<((w.alloc (.cells #[.slice none 0 0,.slice none 0 0] 27)).alloc (.cells #[.slice none 0 0,.slice none 0 0] 108)).heap.size:=by omega
 have u_RA:w1.heap.size≤w1.heap.size:=by omega
 have lt_B2_RA:w.heap.size<((w.alloc (.cells #[.slice none 0 0,.slice none 0 0] 27)).alloc (.cells #[.slice none 0 0,.slice none 0 0] 108)).heap.size:=by omega
 have lt_B3_RA:(w.heap.size+1)<((w.alloc (.cells #[.slice none 0 0,.slice none 0 0] 27)).alloc (.cells #[.slice none 0 0,.slice none 0 0] 108)).heap.size:=by omega
 have g_RL:g<((w.alloc (.cells #[.slice none 0 0,.slice none 0 0] 27)).alloc (.cells #[.slice none 0 0,.slice none 0 0] 108)).heap.size:=by omega
 have u_RL:w1.heap.size≤w1.heap.size:=by omega
 have lt_B2_RL:w.heap.size<((w.alloc (.cells #[.slice none 0 0,.slice none 0 0] 27)).alloc (.cells #[.slice none 0 0,.slice none 0 0] 108)).heap.size:=by omega
 have lt_B3_RL:(w.heap.size+1)<((w.alloc (.cells #[.slice none 0 0,.slice none 0 0] 27)).alloc (.cells #[.slice none 0 0,.slice none 0 0] 108)).heap.size:=by omega
 clear hzq hcq hbs ltq_B2 ltq_B3;have cb_B2:=blk2 B2;have cb_B3:=blk2 B3
 go_upto_region 3 with (fail)
 clear cb_B2 cb_B3;obtain⟨hxa,BB⟩:=ea2 w1 (.cells #[.slice o1 t.ases.length c1,.slice o2 t.links.length c2] 27) (.cells #[.slice none 0 0,.slice none 0 0] 108)
 obtain⟨b4,eb4⟩:∃ b,b=w1.heap.size:=⟨_,rfl⟩
 have ltw_b4:w.heap.size≤b4:=by rw [eb4];exact s.x.size
 have lt_B2_b4:w.heap.size<b4:=by rw [eb4];exact blk_lt B2
 have lt_B3_b4:(w.heap.size+1)<b4:=by rw [eb4];exact blk_lt B3
 have hb_RA_b4:w1.heap.size≤b4:=by rw [eb4];exact u_RA
 have hb_RL_b4:w1.heap.size≤b4:=by rw [eb4];exact u_RL
 replace B2:=Aa hxa B2;replace B3:=Aa hxa B3;replace RA:=Aj RA hxa;replace u_RA:=Ad u_RA hxa.size;replace RL:=Aj RL hxa;replace u_RL:=Ad u_RL hxa.size;replace s:=s.ext hxa;have B4:=BB.1;have B5:=BB.2;rw [← eb4] at B4 B5;rw [← eb4];clear hxa BB;generalize ((w1.alloc (.cells #[.slice o1 t.ases.length c1,.slice o2 t.links.length c2] 27)).alloc (.cells #[.slice none 0 0,.slice none 0 0] 108))=wa at B2 B3 B4 B5 RA RL u_RA u_RL s ⊢
 clear eb4;have cb_B2:=blk2 B2;have cb_B3:=blk2 B3;have cb_B4:=blk2 B4;have cb_B5:=blk2 B5
 go_wp2_with fail
 clear cb_B2 cb_B3 cb_B4 cb_B5;refine(s_l1Below g (8) _ _ _ s.c).mono ?_;rintro e w2 ⟨na,rfl,hna0,hna1,hcq,hzq⟩;replace B2:=hzq.blkS B2 (by unfold at1;omega);replace B3:=hzq.blkS B3 (by unfold at1;omega);replace B4:=hzq.blkS B4 (by unfold at1;omega);replace B5:=hzq.blkS B5 (by unfold at1;omega);replace RA:=Af RA hzq (.inl g_RA);replace u_RA:=Ad u_RA hzq.size;replace RL:=Af RL hzq (.inl g_RL);replace u_RL:=Ad u_RL hzq.size;replace s:=s.draw hcq hzq;clear hzq hcq;obtain⟨m,rfl⟩:=Int.eq_ofNat_of_zero_le hna0;have hm7:m≤8:=by omega
 clear hna0 hna1;have cb_B2:=blk2 B2;have cb_B3:=blk2 B3;have cb_B4:=blk2 B4;have cb_B5:=blk2 B5
 go_wp2_with fail
 clear cb_B2 cb_B3 cb_B4 cb_B5;rw [show 6+(m:Int)=((6+m:Nat):Int) by omega]
 obtain⟨m6,hm6⟩:∃ m6:Nat,m6=6+m:=⟨_,rfl⟩
 have hm13:m6≤20:=by omega
 rw [← hm6];clear hm6 hm7;have RD:(Own.keep Seg.rep).own (rng w2.heap.size w2.heap.size) w2 (.slice none 0 0) []:=fun w9 _=>RdS.nil _ w9
 have RC:=RD;have u_RD:=Ae w2.heap.size;have u_RC:=u_RD;have hgD:g<w2.heap.size:=s.c.lt;have hwD:w.heap.size+1<w2.heap.size:=blk_lt B3
 have hD0:SegsBd 0 []:=⟨Ae _,by simp⟩
 go_loopg [6] m6 (fun gk s6 wx=>∃ (D:List Seg) (C:List Seg) (o_D:Option Addr) (c_D:Nat) (o_C:Option Addr) (c_C:Nat) (lo:Nat) (hi:Nat) (j:Nat),(s6=.int .i64 (gk:Int))∧(gk+j≤20)∧(SegsBd j D)∧(SegsBd j C)∧(g<lo)∧(w.heap.size+1<lo)∧(0<D.length→∃ b c,(.slice o_D D.length c_D:Value)=.slice (some ⟨b,0,none⟩) D.length c∧g<b)∧wx.heap[w.heap.size]?=some (.cells #[.slice none 0 0,.slice none 0 0] 27 (0,0))∧wx.heap[(w.heap.size+1)]?=some (.cells #[.slice none 0 0,.slice none 0 0] 108 (0,0))∧wx.heap[b4]?=some (.cells #[.slice o1 t.ases.length c1,.slice o2 t.links.length c2] 27 (0,0))∧wx.heap[(b4+1)]?=some (.cells #[.slice o_D D.length c_D,.slice o_C C.length c_C] 108 (0,0))∧((Own.keep ASd.rep).own (rng ((w.alloc (.cells #[.slice none 0 0,.slice none 0 0] 27)).alloc (.cells #[.slice none 0 0,.slice none 0 0] 108)).heap.size w1.heap.size) wx (.slice o1 t.ases.length c1) t.ases∧w1.heap.size≤wx.heap.size)∧((Own.keep Lnk.rep).own (rng ((w.alloc (.cells #[.slice none 0 0,.slice none 0 0] 27)).alloc (.cells #[.slice none 0 0,.slice none 0 0] 108)).heap.size w1.heap.size) wx (.slice o2 t.links.length c2) t.links∧w1.heap.size≤wx.heap.size)∧((Own.keep Seg.rep).own (rng lo hi) wx (.slice o_D D.length c_D) D∧hi≤wx.heap.size)∧((Own.keep Seg.rep).own (rng lo hi) wx (.slice o_C C.length c_C) C∧hi≤wx.heap.size)∧Cur g cv cd wx∧Chg (at1 g) w wx)
 case atStart=>exact⟨[],[],_,_,_,_,_,_,0,rfl,hm13,hD0,hD0,hgD,hwD,(fun h=>absurd h (by simp)),B2,B3,B4,B5,⟨RA,u_RA⟩,⟨RL,u_RL⟩,⟨RD,u_RD⟩,⟨RC,u_RC⟩,s.c,s.x⟩
 case round=>
  have hc0z:=s.c0;clear s B2 B3 B4 B5 RA RL RD RC u_RA u_RL u_RD u_RC;obtain⟨D,C,o_D,c_D,o_C,c_C,lo,hi,j,hs6,hgj,hDb,hCb,hlo,hlw,hoD,B2,B3,B4,B5,⟨RA,u_RA⟩,⟨RL,u_RL⟩,⟨RD,u_RD⟩,⟨RC,u_RC⟩,hcC,hcX⟩:=hrel
  obtain⟨wz,hwz⟩:∃ wz:World,wz=wr:=⟨_,rfl⟩
  subst hwz
  have s:DSt g cv cd w wz:=⟨hcC,hcX,hc0z⟩
  clear hcC hcX hc0z
  obtain⟨gq,hgq⟩:∃ gq:Nat,gq=gk:=⟨_,rfl⟩
  subst hgq;subst hs6;clear hD0 hgD hwD hm13
  try clear g_RD u_RD0
  try clear g_RC u_RC0
  try clear g_RD lt_B2_RD lt_B3_RD
  try clear g_RC lt_B2_RC lt_B3_RC
  have g_RD:g<lo:=by omega
  have lt_B2_RD:w.heap.size<lo:=by omega
  have lt_B3_RD:(w.heap.size+1)<lo:=by omega
  have g_RC:g<lo:=by omega
  have lt_B2_RC:w.heap.size<lo:=by omega
  have lt_B3_RC:(w.heap.size+1)<lo:=by omega
  by_cases hg0:0<gq
  ·
   have hg1:(0:Int)<(gq:Int):=by omega
   have cb_B2:=blk2 B2;have cb_B3:=blk2 B3;have cb_B4:=blk2 B4;have cb_B5:=blk2 B5
   go_upto_region 7 with (fail)
   clear cb_B2 cb_B3 cb_B4 cb_B5;have cb_B2:=blk2 B2;have cb_B3:=blk2 B3;have cb_B4:=blk2 B4;have cb_B5:=blk2 B5
   go_wp2_with fail
   clear cb_B2 cb_B3 cb_B4 cb_B5;refine(s_l1Once g (3) _ _ _ s.c).mono ?_;rintro e w3 ⟨b1,rfl,hcq,hzq⟩;replace B2:=hzq.blkS B2 (by unfold at1;omega);replace B3:=hzq.blkS B3 (by unfold at1;omega);replace B4:=hzq.blkS B4 (by unfold at1;omega);replace B5:=hzq.blkS B5 (by unfold at1;omega);replace RA:=Af RA hzq (.inl g_RA);replace u_RA:=Ad u_RA hzq.size;replace RL:=Af RL hzq (.inl g_RL);replace u_RL:=Ad u_RL hzq.size;replace RD:=Af RD hzq (.inl g_RD);replace u_RD:=Ad u_RD hzq.size;replace RC:=Af RC hzq (.inl g_RC);replace u_RC:=Ad u_RC hzq.size;replace s:=s.draw hcq hzq;clear hzq hcq;have cb_B2:=blk2 B2;have cb_B3:=blk2 B3;have cb_B4:=blk2 B4;have cb_B5:=blk2 B5
   go_upto_if 19 with (fail)
   clear cb_B2 cb_B3 cb_B4 cb_B5
   go_cut [7] (fun v7 wx=>∃ (kd:Int),(v7=.int .i64 kd)∧wx.heap[w.heap.size]?=some (.cells #[.slice none 0 0,.slice none 0 0] 27 (0,0))∧wx.heap[(w.heap.size+1)]?=some (.cells #[.slice none 0 0,.slice none 0 0] 108 (0,0))∧wx.heap[b4]?=some (.cells #[.slice o1 t.ases.length c1,.slice o2 t.links.length c2] 27 (0,0))∧wx.heap[(b4+1)]?=some (.cells #[.slice o_D D.length c_D,.slice o_C C.length c_C] 108 (0,0))∧((Own.keep ASd.rep).own (rng ((w.alloc (.cells #[.slice none 0 0,.slice none 0 0] 27)).alloc (.cells #[.slice none 0 0,.slice none 0 0] 108)).heap.size w1.heap.size) wx (.slice o1 t.ases.length c1) t.ases∧w1.heap.size≤wx.heap.size)∧((Own.keep Lnk.rep).own (rng ((w.alloc (.cells #[.slice none 0 0,.slice none 0 0] 27)).alloc (.cells #[.slice none 0 0,.slice none 0 0] 108)).heap.size w1.heap.size) wx (.slice o2 t.links.length c2) t.links∧w1.heap.size≤wx.heap.size)∧((Own.keep Seg.rep).own (rng lo hi) wx (.slice o_D D.length c_D) D∧hi≤wx.heap.size)∧((Own.keep Seg.rep).own (rng lo hi) wx (.slice o_C C.length c_C) C∧hi≤wx.heap.size)∧Cur g cv cd wx∧Chg (at1 g) w wx)
   case first=>
    cases b1
    case false=>
     go_wp2_with fail
     go_meet
     exact⟨2,rfl,B2,B3,B4,B5,⟨RA,u_RA⟩,⟨RL,u_RL⟩,⟨RD,u_RD⟩,⟨RC,u_RC⟩,s.c,s.x⟩
    case true=>
     go_wp2_with fail
     go_meet
     exact⟨1,rfl,B2,B3,B4,B5,⟨RA,u_RA⟩,⟨RL,u_RL⟩,⟨RD,u_RD⟩,⟨RC,u_RC⟩,s.c,s.x⟩
   case rest=>
    have hc0z:=s.c0;clear s B2 B3 B4 B5 RA RL RD RC u_RA u_RL u_RD u_RC;obtain⟨kd,hv7,B2,B3,B4,B5,⟨RA,u_RA⟩,⟨RL,u_RL⟩,⟨RD,u_RD⟩,⟨RC,u_RC⟩,hcC,hcX⟩:=hcut
    obtain⟨wz1,hwz⟩:∃ wz:World,wz=wc:=⟨_,rfl⟩
    subst hwz
    have s:DSt g cv cd w wz1:=⟨hcC,hcX,hc0z⟩
    clear hcC hcX hc0z;subst hv7;have cb_B2:=blk2 B2;have cb_B3:=blk2 B3;have cb_B4:=blk2 B4;have cb_B5:=blk2 B5
    go_upto_region 9 with (fail)
    clear cb_B2 cb_B3 cb_B4 cb_B5;refine Bl (at1 g) [([0,1,2,3,4],5),([],6)] [] [7] (by kernel_rfl) (by kernel_rfl) (by kernel_rfl) ?_;have ch_B4:=blk2 B4;have q0:=Cj (S:=at1 g) ch_B4 (by first | omega | (unfold at1;omega) | (simp only;omega));clear ch_B4;have ch_B5:=blk2 B5;have q2:=Cj (S:=at1 g) ch_B5 (by first | omega | (unfold at1;omega) | (simp only;omega));clear ch_B5;simp only [wpBlocksX,pickOps,PK];have hch:Chg (at1 g) wz1 wz1.drew:=Ar (Ab wz1).drew;replace B2:=Aa ((Ab wz1).drew) B2;replace B3:=Aa ((Ab wz1).drew) B3;replace B4:=Aa ((Ab wz1).drew) B4;replace B5:=Aa ((Ab wz1).drew) B5;replace RA:=Aj RA ((Ab wz1).drew);replace u_RA:=Ad u_RA ((Ab wz1).drew).size;replace RL:=Aj RL ((Ab wz1).drew);replace u_RL:=Ad u_RL ((Ab wz1).drew).size;replace RD:=Aj RD ((Ab wz1).drew);replace u_RD:=Ad u_RD ((Ab wz1).drew).size;replace RC:=Aj RC ((Ab wz1).drew);replace u_RC:=Ad u_RC ((Ab wz1).drew).size;replace s:=s.ext ((Ab wz1).drew)
    obtain⟨wt,hnw⟩:∃ wn,wn=wz1.drew:=⟨_,rfl⟩
    rw [← hnw] at B2 B3 B4 B5 RA RL RD RC u_RA u_RL u_RD u_RC s hch ⊢
    clear hnw
    repeat (first | go_big_quiet_step (fail) | quiet_step (fail))
    refine wpQuiet_nil ?_
    go_wp2_with fail
    have hbs:w.heap.size≤wt.heap.size:=s.x.size;have ltq_B2:w.heap.size<wt.heap.size:=blk_lt B2;have ltq_B3:(w.heap.size+1)<wt.heap.size:=blk_lt B3;have ltq_B4:b4<wt.heap.size:=blk_lt B4;have ltq_B5:(b4+1)<wt.heap.size:=blk_lt B5;refine(s_l9Grow g t (.slice o1 t.ases.length c1) (.slice o2 t.links.length c2) kd _ _ _ s.c TK (Own.stR RA (.inl g_RA)) (Own.stR RL (.inl g_RL))).mono ?_;rintro e w4 ⟨vh,a,rfl,SD,OH,hcq,hzq⟩;replace B2:=hzq.blkS B2 (by unfold at1;omega);replace B3:=hzq.blkS B3 (by unfold at1;omega);replace B4:=hzq.blkS B4 (by unfold at1;omega);replace B5:=hzq.blkS B5 (by unfold at1;omega);replace RA:=Af RA hzq (.inl g_RA);replace u_RA:=Ad u_RA hzq.size;replace RL:=Af RL hzq (.inl g_RL);replace u_RL:=Ad u_RL hzq.size;replace RD:=Af RD hzq (.inl g_RD);replace u_RD:=Ad u_RD hzq.size;replace RC:=Af RC hzq (.inl g_RC);replace u_RC:=Ad u_RC hzq.size;replace s:=s.draw hcq hzq;replace hch:=hch.trans (hzq.mono (fun b h=>h));have RH:(Own.keep Hop.rep).own (rng wt.heap.size w4.heap.size) w4 vh a.hops:=Be (Own.ofFr (hf:=Ao) OH (Ae _));clear OH;obtain⟨o_a,c_a,rfl,_⟩:=Bf (Own.rd _ RH);have hl6:a.hops.length≤6:=by have h1:=SD.len;omega
    clear SD;have g_RH:g<wt.heap.size:=by omega
    have u_RH:w4.heap.size≤w4.heap.size:=by omega
    have lt_B2_RH:w.heap.size<wt.heap.size:=by omega
    have lt_B3_RH:(w.heap.size+1)<wt.heap.size:=by omega
    have lt_B4_RH:b4<wt.heap.size:=by omega
    have lt_B5_RH:(b4+1)<wt.heap.size:=by omega
    clear hzq hcq hbs ltq_B2 ltq_B3 ltq_B4 ltq_B5
    go_wp2_with fail
    refine⟨⟨⟨_,hch⟩,rfl⟩,?_⟩
    repeat (first | go_big_quiet_step (fail) | quiet_step (fail))
    refine wpQuiet_nil ?_;have hgW:=s.c.lt
    go_wp2_with fail
    have hbs:w.heap.size≤w4.heap.size:=s.x.size;have ltq_B2:w.heap.size<w4.heap.size:=blk_lt B2;have ltq_B3:(w.heap.size+1)<w4.heap.size:=blk_lt B3;have ltq_B4:b4<w4.heap.size:=blk_lt B4;have ltq_B5:(b4+1)<w4.heap.size:=blk_lt B5;refine(s_AddSegment t _ _ D C _ _ a _ j _ (Own.rd _ RA) (Own.rd _ RL) (Own.rd _ RD) (Own.rd _ RC) (Own.rd _ RH) hDb hCb hl6 (by omega)).mono ?_;rintro e w5 ⟨vdn,vcn,Dn,Cn,rfl,hDn,hCn,RDn,RCn,hoDn,hzq⟩;replace B2:=Aa hzq B2;replace B3:=Aa hzq B3;replace B4:=Aa hzq B4;replace B5:=Aa hzq B5;replace RA:=Aj RA hzq;replace u_RA:=Ad u_RA hzq.size;replace RL:=Aj RL hzq;replace u_RL:=Ad u_RL hzq.size;replace RD:=Aj RD hzq;replace u_RD:=Ad u_RD hzq.size;replace RC:=Aj RC hzq;replace u_RC:=Ad u_RC hzq.size;replace RH:=Aj RH hzq;replace u_RH:=Ad u_RH hzq.size;replace s:=s.ext hzq;replace hch:=hch.trans ((Ar hzq));have hoD2:0<Dn.length→∃ b c,vdn=.slice (some ⟨b,0,none⟩) Dn.length c∧g<b:=fun h=>by obtain⟨b,c,h1,h2⟩:=hoDn h;exact⟨b,c,h1,by have h3:=hgW;omega⟩
    clear hoDn hoD;obtain⟨o_Dn,c_Dn,rfl,_⟩:=(Own.rd _ RDn).shape;obtain⟨o_Cn,c_Cn,rfl,_⟩:=(Own.rd _ RCn).shape;have g_RDn:g<w4.heap.size:=by omega
    have u_RDn:w5.heap.size≤w5.heap.size:=by omega
    have lt_B2_RDn:w.heap.size<w4.heap.size:=by omega
    have lt_B3_RDn:(w.heap.size+1)<w4.heap.size:=by omega
    have lt_B4_RDn:b4<w4.heap.size:=by omega
    have lt_B5_RDn:(b4+1)<w4.heap.size:=by omega
    have g_RCn:g<w4.heap.size:=by omega
    have u_RCn:w5.heap.size≤w5.heap.size:=by omega
    have lt_B2_RCn:w.heap.size<w4.heap.size:=by omega
    have lt_B3_RCn:(w.heap.size+1)<w4.heap.size:=by omega
    have lt_B4_RCn:b4<w4.heap.size:=by omega
    have lt_B5_RCn:(b4+1)<w4.heap.size:=by omega
    clear hzq hbs ltq_B2 ltq_B3 ltq_B4 ltq_B5
    go_wp2_with fail
    refine⟨⟨⟨_,hch⟩,rfl⟩,?_⟩
    repeat (first | go_big_quiet_step (fail) | quiet_step (fail))
    refine wpQuiet_nil ?_;clear u_RD g_RD;clear RD;clear u_RC g_RC;clear RC;clear u_RH g_RH;clear RH;obtain⟨wpk,hwk,hbk,hck⟩:=two_set B5 (.slice o_Dn Dn.length c_Dn) (.slice o_Cn Cn.length c_Cn);have HWk:=Ac hwk;clear hwk;have ff0:=fr2 B5;have cb:=blk2 B5
    go_wp2_with fail
    rw [← HWk.out];clear HWk cb ff0;replace RA:=Af RA hck (by omega);replace u_RA:=Ad u_RA hck.size;replace RL:=Af RL hck (by omega);replace u_RL:=Ad u_RL hck.size;replace RDn:=Af RDn hck (by omega);replace u_RDn:=Ad u_RDn hck.size;replace RCn:=Af RCn hck (by omega);replace u_RCn:=Ad u_RCn hck.size;replace B2:=hck.blkS B2 (by unfold at1;omega);replace B3:=hck.blkS B3 (by unfold at1;omega);replace B4:=hck.blkS B4 (by unfold at1;omega);replace B5:=hbk;clear hbk;replace s:=s.put hck (fun i hi=>by have h1:i=(b4+1):=hi;omega)
    try clear hck
    refine NoPanic.normal ?_;clear hch q0 q2;have cb_B2:=blk2 B2;have cb_B3:=blk2 B3;have cb_B4:=blk2 B4;have cb_B5:=blk2 B5
    go_wp2_with fail
    clear cb_B2 cb_B3 cb_B4 cb_B5
    go_roundg (gq - 1)
    case measure=>omega
    case rel=>exact⟨Dn,Cn,_,_,_,_,_,_,j+1,congrArg (Value.int .i64) (by first | omega | (unfold wrap64;omega)),by omega,hDn,hCn,g_RDn,lt_B3_RDn,hoD2,B2,B3,B4,B5,⟨RA,u_RA⟩,⟨RL,u_RL⟩,⟨RDn,u_RDn⟩,⟨RCn,u_RCn⟩,s.c,s.x⟩
  have hg1:¬ (0:Int)<(gq:Int):=by omega
  have cb_B2:=blk2 B2;have cb_B3:=blk2 B3;have cb_B4:=blk2 B4;have cb_B5:=blk2 B5
  go_upto_region 10 with (fail)
  clear cb_B2 cb_B3 cb_B4 cb_B5;refine Bl (fun k=>k=w.heap.size) [([0,1],2)] [] [3] (by kernel_rfl) (by kernel_rfl) (by kernel_rfl) ?_;have ch_B4:=blk2 B4;have q0:=Cj (S:=fun k=>k=w.heap.size) ch_B4 (by first | omega | (unfold at1;omega) | (simp only;omega));clear ch_B4;have ch_B5:=blk2 B5;have q2:=Cj (S:=fun k=>k=w.heap.size) ch_B5 (by first | omega | (unfold at1;omega) | (simp only;omega));clear ch_B5;simp only [wpBlocksX,pickOps,PK];have hch:Chg (fun k=>k=w.heap.size) wz wz.drew:=Ar (Ab wz).drew;replace B2:=Aa ((Ab wz).drew) B2;replace B3:=Aa ((Ab wz).drew) B3;replace B4:=Aa ((Ab wz).drew) B4;replace B5:=Aa ((Ab wz).drew) B5;replace RA:=Aj RA ((Ab wz).drew);replace u_RA:=Ad u_RA ((Ab wz).drew).size;replace RL:=Aj RL ((Ab wz).drew);replace u_RL:=Ad u_RL ((Ab wz).drew).size;replace RD:=Aj RD ((Ab wz).drew);replace u_RD:=Ad u_RD ((Ab wz).drew).size;replace RC:=Aj RC ((Ab wz).drew);replace u_RC:=Ad u_RC ((Ab wz).drew).size;replace s:=s.ext ((Ab wz).drew)
  obtain⟨wt,hnw⟩:∃ wn,wn=wz.drew:=⟨_,rfl⟩
  rw [← hnw] at B2 B3 B4 B5 RA RL RD RC u_RA u_RL u_RD u_RC s hch ⊢
  clear hnw
  repeat (first | go_big_quiet_step (fail) | quiet_step (fail))
  refine wpQuiet_nil ?_;obtain⟨wpa,hwa,hba,hca⟩:=two_set B2 (.slice o1 t.ases.length c1) (.slice o2 t.links.length c2);have HWa:=Ac hwa;clear hwa;have ff0:=fr2 B2;have cb:=blk2 B2
  go_wp2_with fail
  rw [← HWa.out];clear HWa cb ff0;replace hch:=hch.trans (hca.mono (fun b h=>h));refine⟨⟨⟨_,hch⟩,rfl⟩,?_⟩;replace RA:=Af RA hca (by omega);replace u_RA:=Ad u_RA hca.size;replace RL:=Af RL hca (by omega);replace u_RL:=Ad u_RL hca.size;replace RD:=Af RD hca (by omega);replace u_RD:=Ad u_RD hca.size;replace RC:=Af RC hca (by omega);replace u_RC:=Ad u_RC hca.size;replace B3:=hca.blkS B3 (by unfold at1;omega);replace B4:=hca.blkS B4 (by unfold at1;omega);replace B5:=hca.blkS B5 (by unfold at1;omega);replace B2:=hba;clear hba;replace s:=s.put hca (fun i hi=>by have h1:i=w.heap.size:=hi;omega)
  try clear hca
  repeat (first | go_big_quiet_step (fail) | quiet_step (fail))
  refine wpQuiet_nil ?_;obtain⟨wpb,hwb,hbb,hcb⟩:=two_set B3 (.slice o_D D.length c_D) (.slice o_C C.length c_C);have HWb:=Ac hwb;clear hwb;have ff0:=fr2 B3;have cb:=blk2 B3
  go_wp2_with fail
  rw [← HWb.out];clear HWb cb ff0;replace RA:=Af RA hcb (by omega);replace u_RA:=Ad u_RA hcb.size;replace RL:=Af RL hcb (by omega);replace u_RL:=Ad u_RL hcb.size;replace RD:=Af RD hcb (by omega);replace u_RD:=Ad u_RD hcb.size;replace RC:=Af RC hcb (by omega);replace u_RC:=Ad u_RC hcb.size;replace B2:=hcb.blkS B2 (by unfold at1;omega);replace B4:=hcb.blkS B4 (by unfold at1;omega);replace B5:=hcb.blkS B5 (by unfold at1;omega);replace B3:=hbb;clear hbb;replace s:=s.put hcb (fun i hi=>by have h1:i=(w.heap.size+1):=hi;omega)
  try clear hcb
  refine NoPanic.normal ?_;clear hch q0 q2;have cr_B2:=blk2 B2;have cr_B3:=blk2 B3;have cr_B4:=blk2 B4;have cr_B5:=blk2 B5;have hszE:=s.x.size
  go_wp2_with fail
  refine bodyPost_ret (by simp [results,Tryz.results76,go_sem,cr_B2,cr_B3] <;> rfl) rfl ?_;exact⟨_,_,_,_,t,D,C,rfl,TK,hDb.mono (by omega),hCb.mono (by omega),hoD,(Bg (Cd RA (by omega)) (Ae _)),(Bg (Cd RL (by omega)) (Ae _)),(Bg (Cd RD (by omega)) (Ae _)),(Bg (Cd RC (by omega)) (Ae _)),s.c,s.x⟩
theorem s_l23Ends (g:Nat)  (D:List Seg) (vd vc cv:Value) (cd:List Int) (w:World) (hc:Cur g cv cd w) (rd:St g Seg.rep w vd D) (hbg:0<D.length→∃ b c,vd=.slice (some ⟨b,0,none⟩) D.length c∧g<b) :
  Calls Tryz.prog 77 #[.pointer (some ⟨g,0,none⟩),.agg #[vd,vc]] w fun e w'=>∃ a b:Int,e=.returned (.tuple #[.int .i64 a,.int .i64 b])∧Cur g cv cd w'∧Chg (at1 g) w w':=by
 obtain⟨o_D,c_D,rfl,_⟩:=rd.rd.shape;obtain⟨hx0,HB⟩:=ea1 w (.cells #[.slice o_D D.length c_D,vc] 108);have hgw:=hc.lt
 have s:DSt g cv cd w (w.alloc (.cells #[.slice o_D D.length c_D,vc] 108)):=⟨hc.ext hx0,Ar hx0,hc⟩
 have B3:=HB;clear HB hx0
 go_enter Tryz.func77,Tryz.ntmps77
 go_wp2_with fail
 refine(s_l1Below g (8) _ _ _ s.c).mono ?_;rintro e w1 ⟨a,rfl,ha0,ha1,hcq,hzq⟩;replace B3:=hzq.blkS B3 (by unfold at1;omega);replace s:=s.draw hcq hzq;clear hzq hcq;have cb_B3:=blk2 B3
 go_wp2_with fail
 clear cb_B3;refine(s_l1Below g (8) _ _ _ s.c).mono ?_;rintro e w2 ⟨b,rfl,hb0,hb1,hcq,hzq⟩;replace B3:=hzq.blkS B3 (by unfold at1;omega);replace s:=s.draw hcq hzq;clear hzq hcq;clear ha0 ha1 hb0 hb1;have cb_B3:=blk2 B3
 go_upto_region 3 with (fail)
 clear cb_B3
 go_cut [20] (fun vo wx=>∃ (bo:Bool),(vo=.bool bo)∧(bo=true→0<D.length)∧wx.heap[w.heap.size]?=some (.cells #[.slice o_D D.length c_D,vc] 108 (0,0))∧Cur g cv cd wx∧Chg (at1 g) w wx)
 case first=>
  by_cases h0:0<D.length
  ·
   have h01:(0:Int)<(D.length:Int):=by omega
   have HH0:=Ac h0;clear h0;have cb_B3:=blk2 B3
   go_wp2_with fail
   clear cb_B3;refine(s_l1Once g (4) _ _ _ s.c).mono ?_;rintro e w3 ⟨bx,rfl,hcq,hzq⟩;replace B3:=hzq.blkS B3 (by unfold at1;omega);replace s:=s.draw hcq hzq;clear hzq hcq
   go_wp2_with fail
   go_meet
   exact⟨(!bx),rfl,(fun _=>HH0.out),B3,s.c,s.x⟩
  have h01:¬ (0:Int)<(D.length:Int):=by omega
  have cb_B3:=blk2 B3
  go_wp2_with fail
  go_meet
  exact⟨false,rfl,(fun h=>by cases h),B3,s.c,s.x⟩
 case rest=>
  have hc0z:=s.c0;clear s B3;obtain⟨bo,hvo,hbo,B3,hcC,hcX⟩:=hcut
  obtain⟨wz1,hwz⟩:∃ wz:World,wz=wc:=⟨_,rfl⟩
  subst hwz
  have s:DSt g cv cd w wz1:=⟨hcC,hcX,hc0z⟩
  clear hcC hcX hc0z;subst hvo;have cb_B3:=blk2 B3
  go_upto_if 20 with (fail)
  clear cb_B3
  go_cut [6] (fun v9 wx=>∃ (a2:Int),(v9=.int .i64 a2)∧wx.heap[w.heap.size]?=some (.cells #[.slice o_D D.length c_D,vc] 108 (0,0))∧Cur g cv cd wx∧Chg (at1 g) w wx)
  case first=>
   cases bo
   case false=>
    go_wp2_with fail
    go_meet
    exact⟨a,rfl,B3,s.c,s.x⟩
   case true=>
    have h0:=hbo rfl;have cb_B3:=blk2 B3
    go_upto_region 4 with (fail)
    clear cb_B3;obtain⟨bD,cD9,hD9,hgD⟩:=hbg h0
    cases hD9
    have rdt:=(rd.step s.x).rd;refine Bl (at1 g) [([0,1,2,3,4,5],6),([7,8],9)] [10] [] (by kernel_rfl) (by kernel_rfl) (by kernel_rfl) ?_;have ch_B3:=blk2 B3;have q0:=Cj (S:=at1 g) ch_B3 (by first | omega | (unfold at1;omega) | (simp only;omega));clear ch_B3;simp only [wpBlocksX,pickOps,PK];have hch:Chg (at1 g) wz1 wz1.drew:=Ar (Ab wz1).drew;replace B3:=Aa ((Ab wz1).drew) B3;replace s:=s.ext ((Ab wz1).drew)
    obtain⟨wt,hnw⟩:∃ wn,wn=wz1.drew:=⟨_,rfl⟩
    rw [← hnw] at B3 s hch ⊢
    clear hnw
    repeat (first | go_big_quiet_step (fail) | quiet_step (fail))
    refine wpQuiet_nil ?_
    go_wp2_with fail
    refine(s_l1Below g (D.length:Int) _ _ _ s.c).mono ?_;rintro e w3 ⟨n,rfl,hn0,hn1,hcq,hzq⟩;replace B3:=hzq.blkS B3 (by unfold at1;omega);replace s:=s.draw hcq hzq;replace hch:=hch.trans (hzq.mono (fun b h=>h));obtain⟨k,rfl⟩:=Int.eq_ofNat_of_zero_le hn0;have hk:k<D.length:=by omega
    obtain⟨b0,off,oh,ch,hbo9,hc9,_⟩:=Seg.at rdt k hk
    cases hbo9
    obtain⟨b8,off8,oh8,ch8,hbo8,hc8,hr⟩:=Seg.at (rd.step s.x).rd k hk
    cases hbo8
    simp only [Nat.zero_add] at hc9 hc8;have hA:=Aw (S:=at1 g) hc9.2.2 (by unfold at1;simp only;omega) ⟨_,hch⟩;have hB:=hA.symm.trans hc8.2.2
    injection hB with hB
    injection hB with hB1 hB2 hB3
    subst hB1;subst hB3;clear hA hB2 hc8;have hkk:(k:Int)<(D.length:Int):=by omega
    have e0:=Aw (S:=at1 g) hc9.1 (by unfold at1;simp only;omega);have e1:=Aw (S:=at1 g) hc9.2.1 (by unfold at1;simp only;omega);have e2:=Aw (S:=at1 g) hc9.2.2 (by unfold at1;simp only;omega);clear hzq hcq
    go_wp2_with fail
    refine⟨⟨⟨_,hch⟩,rfl⟩,?_⟩
    repeat (first | go_big_quiet_step (fail) | quiet_step (fail))
    refine wpQuiet_nil ?_
    go_wp2_with fail
    refine(s_LastAS D[k] _ _ hr).mono ?_;rintro e w4 ⟨a2,rfl,hzq⟩;replace B3:=Aa hzq B3;replace s:=s.ext hzq;replace hch:=hch.trans ((Ar hzq));clear hzq
    go_wp2_with fail
    refine⟨⟨⟨_,hch⟩,rfl⟩,?_⟩
    repeat (first | go_big_quiet_step (fail) | quiet_step (fail))
    refine wpQuiet_nil ?_;refine NoPanic.normal ?_;clear hch q0
    go_wp2_with fail
    go_meet
    exact⟨a2,rfl,B3,s.c,s.x⟩
  case rest=>
   have hc0z:=s.c0;clear s B3;obtain⟨a2,hv9,B3,hcC,hcX⟩:=hcut
   obtain⟨wy1,hwz⟩:∃ wz:World,wz=wc:=⟨_,rfl⟩
   subst hwz
   have s:DSt g cv cd w wy1:=⟨hcC,hcX,hc0z⟩
   clear hcC hcX hc0z;subst hv9
   try clear hbo
   have cb_B3:=blk2 B3
   go_upto_region 5 with (fail)
   clear cb_B3
   go_cut [39] (fun vo wx=>∃ (bo:Bool),(vo=.bool bo)∧(bo=true→0<D.length)∧wx.heap[w.heap.size]?=some (.cells #[.slice o_D D.length c_D,vc] 108 (0,0))∧Cur g cv cd wx∧Chg (at1 g) w wx)
   case first=>
    by_cases h0:0<D.length
    ·
     have h01:(0:Int)<(D.length:Int):=by omega
     have HH0:=Ac h0;clear h0;have cb_B3:=blk2 B3
     go_wp2_with fail
     clear cb_B3;refine(s_l1Once g (3) _ _ _ s.c).mono ?_;rintro e w3 ⟨bx,rfl,hcq,hzq⟩;replace B3:=hzq.blkS B3 (by unfold at1;omega);replace s:=s.draw hcq hzq;clear hzq hcq
     go_wp2_with fail
     go_meet
     exact⟨(!bx),rfl,(fun _=>HH0.out),B3,s.c,s.x⟩
    have h01:¬ (0:Int)<(D.length:Int):=by omega
    have cb_B3:=blk2 B3
    go_wp2_with fail
    go_meet
    exact⟨false,rfl,(fun h=>by cases h),B3,s.c,s.x⟩
   case rest=>
    have hc0z:=s.c0;clear s B3;obtain⟨bo,hvo,hbo,B3,hcC,hcX⟩:=hcut
    obtain⟨wz2,hwz⟩:∃ wz:World,wz=wc:=⟨_,rfl⟩
    subst hwz
    have s:DSt g cv cd w wz2:=⟨hcC,hcX,hc0z⟩
    clear hcC hcX hc0z;subst hvo;have cb_B3:=blk2 B3
    go_upto_if 39 with (fail)
    clear cb_B3
    go_cut [7] (fun v9 wx=>∃ (b2:Int),(v9=.int .i64 b2)∧wx.heap[w.heap.size]?=some (.cells #[.slice o_D D.length c_D,vc] 108 (0,0))∧Cur g cv cd wx∧Chg (at1 g) w wx)
    case first=>
     cases bo
     case false=>
      go_wp2_with fail
      go_meet
      exact⟨b,rfl,B3,s.c,s.x⟩
     case true=>
      have h0:=hbo rfl;have cb_B3:=blk2 B3
      go_upto_region 6 with (fail)
      clear cb_B3;obtain⟨bD,cD9,hD9,hgD⟩:=hbg h0
      cases hD9
      have rdt:=(rd.step s.x).rd;refine Bl (at1 g) [([0,1,2,3,4,5],6),([7,8],9)] [10] [] (by kernel_rfl) (by kernel_rfl) (by kernel_rfl) ?_;have ch_B3:=blk2 B3;have q0:=Cj (S:=at1 g) ch_B3 (by first | omega | (unfold at1;omega) | (simp only;omega));clear ch_B3;simp only [wpBlocksX,pickOps,PK];have hch:Chg (at1 g) wz2 wz2.drew:=Ar (Ab wz2).drew;replace B3:=Aa ((Ab wz2).drew) B3;replace s:=s.ext ((Ab wz2).drew)
      obtain⟨wt,hnw⟩:∃ wn,wn=wz2.drew:=⟨_,rfl⟩
      rw [← hnw] at B3 s hch ⊢
      clear hnw
      repeat (first | go_big_quiet_step (fail) | quiet_step (fail))
      refine wpQuiet_nil ?_
      go_wp2_with fail
      refine(s_l1Below g (D.length:Int) _ _ _ s.c).mono ?_;rintro e w3 ⟨n,rfl,hn0,hn1,hcq,hzq⟩;replace B3:=hzq.blkS B3 (by unfold at1;omega);replace s:=s.draw hcq hzq;replace hch:=hch.trans (hzq.mono (fun b h=>h));obtain⟨k,rfl⟩:=Int.eq_ofNat_of_zero_le hn0;have hk:k<D.length:=by omega
      obtain⟨b0,off,oh,ch,hbo9,hc9,_⟩:=Seg.at rdt k hk
      cases hbo9
      obtain⟨b8,off8,oh8,ch8,hbo8,hc8,hr⟩:=Seg.at (rd.step s.x).rd k hk
      cases hbo8
      simp only [Nat.zero_add] at hc9 hc8;have hA:=Aw (S:=at1 g) hc9.2.2 (by unfold at1;simp only;omega) ⟨_,hch⟩;have hB:=hA.symm.trans hc8.2.2
      injection hB with hB
      injection hB with hB1 hB2 hB3
      subst hB1;subst hB3;clear hA hB2 hc8;have hkk:(k:Int)<(D.length:Int):=by omega
      have e0:=Aw (S:=at1 g) hc9.1 (by unfold at1;simp only;omega);have e1:=Aw (S:=at1 g) hc9.2.1 (by unfold at1;simp only;omega);have e2:=Aw (S:=at1 g) hc9.2.2 (by unfold at1;simp only;omega);clear hzq hcq
      go_wp2_with fail
      refine⟨⟨⟨_,hch⟩,rfl⟩,?_⟩
      repeat (first | go_big_quiet_step (fail) | quiet_step (fail))
      refine wpQuiet_nil ?_
      go_wp2_with fail
      refine(s_LastAS D[k] _ _ hr).mono ?_;rintro e w4 ⟨b2,rfl,hzq⟩;replace B3:=Aa hzq B3;replace s:=s.ext hzq;replace hch:=hch.trans ((Ar hzq));clear hzq
      go_wp2_with fail
      refine⟨⟨⟨_,hch⟩,rfl⟩,?_⟩
      repeat (first | go_big_quiet_step (fail) | quiet_step (fail))
      refine wpQuiet_nil ?_;refine NoPanic.normal ?_;clear hch q0
      go_wp2_with fail
      go_meet
      exact⟨b2,rfl,B3,s.c,s.x⟩
    case rest=>
     have hc0z:=s.c0;clear s B3;obtain⟨b2,hv9,B3,hcC,hcX⟩:=hcut
     obtain⟨wy2,hwz⟩:∃ wz:World,wz=wc:=⟨_,rfl⟩
     subst hwz
     have s:DSt g cv cd w wy2:=⟨hcC,hcX,hc0z⟩
     clear hcC hcX hc0z;subst hv9
     try clear hbo
     go_wp2_with fail
     refine bodyPost_ret (by simp [results,Tryz.results77,go_sem] <;> rfl) rfl ?_;exact⟨a2,b2,rfl,s.c,s.x⟩
end
end Go.Proofs.YteodlcpeoaggbaaGreat
