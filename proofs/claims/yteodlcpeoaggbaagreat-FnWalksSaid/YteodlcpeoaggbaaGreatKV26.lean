/- What these laws need: FnOld, FnWalks: Draws of bytes and of packets. -/
import Derived.Deep.CutBlock
import Derived.Test.YteodlcpeoaggbaaGreatKV23
namespace Go.Proofs.YteodlcpeoaggbaaGreat
section
open Go.ChangeShapes Go.WideShapes Go.ChangeAt Go.RowKit Go.Deep
set_option maxRecDepth 100000
set_option maxHeartbeats 20000000
theorem Pkt.keep0 {a b:Nat} {w:World} {h0 h1:Value} {x:Pkt} (h:Pkt.own (rng a b) w h0 h1 x):(Own.keep Part.rep).own (rng a b) w h0 x.path.parts:=by
 obtain⟨S0,S1,p,q,c0,c1,d⟩:=h;exact Own.mono _ (Be p) c0
theorem Pkt.keep1 {a b:Nat} {w:World} {h0 h1:Value} {x:Pkt} (h:Pkt.own (rng a b) w h0 h1 x):(Own.keep Rep.byte).own (rng a b) w h1 x.pay:=by
 obtain⟨S0,S1,p,q,c0,c1,d⟩:=h;exact Own.mono _ (Be q) c1
structure PktBd (x : Pkt) : Prop where
 parts:x.path.parts.length≤4
 hops:∀ y∈x.path.parts,y.hops.length≤5
 pay:x.pay.length≤3
 u8:∀ b∈x.pay,U8 b
theorem PktBd.size {x:Pkt} (h:PktBd x):x.size≤27∧x.path.size≤24:=by
 have h1:=hopsN_all (l:=x.path.parts) (m:=5) h.hops;have:=h.parts;have:=h.pay;unfold Pkt.size Pth.size;omega
theorem s_l1Bytes (g:Nat) (n:Int) (cv:Value) (cd:List Int) (w:World) (hc:Cur g cv cd w) (h0:0≤n) (h1:n≤1000) :
  Calls Tryz.prog 88 #[.pointer (some ⟨g,0,none⟩),.int .i64 n] w fun e w'=>∃ (v:Value) (l:List Int),e=.returned v∧(l.length:Int)=n∧Hid (∀ b∈l,U8 b)∧OwnF byteF 1 w.heap.size 5 w' v l∧Cur g cv cd w'∧Chg (at1 g) w w':=by
 obtain⟨EB⟩:=elemByte;obtain⟨m,rfl⟩:=Int.eq_ofNat_of_zero_le h0;have hgw:=hc.lt;have ho0:=Bj byteF 1 w.heap.size 5 w (Ae _);have hx0:Ext w (w.alloc (.cells #[] 5)):=(Ab _).alloc _;have hc0:=hc.ext hx0
 go_enter Tryz.func88,Tryz.ntmps88
 go_wp2_with fail
 go_loopg [5,6] m (fun gk out i wr=>∃ (k:Nat) (l:List Int),gk+k=m∧i=.int .i64 k∧l.length=k∧Hid (∀ b∈l,U8 b)∧OwnF byteF 1 w.heap.size 5 wr out l∧Cur g cv cd wr∧Chg (at1 g) w wr)
 case atStart=>exact⟨0,[],by omega,rfl,rfl,Ac (fun b hb=>absurd hb (by simp)),ho0,hc0,Ar hx0⟩
 case round=>
  obtain⟨k,l,hgk,rfl,hlk,HU,ho,hcr,hxr⟩:=hrel;have HGK:=Ac hgk;have HLK:=Ac hlk;clear hgk hlk ho0 hc0 hx0;have hkm:k≤m:=by have h2:=HGK.out;omega
  by_cases hlt:k<m
  ·
   have hlt2:(k:Int)<(m:Int):=by omega
   go_wp2_with fail
   refine(s_l1Byte g cv cd _ hcr).mono ?_;rintro e w1 ⟨r,rfl,hr0,hr1,hc1,hx1⟩
   have HU2 : Hid (∀ b ∈ l ++ [r], U8 b) := Ac (fun b hb => by
    rcases List.mem_append.1 hb with h | h
    ·
     exact HU.out b h
    rw [List.mem_singleton.1 h]; unfold U8; omega)
   have ho1:=ho.chg hx1 (fun q hq e=>by have h2:=(ho.block q hq).1;have h3:q=g:=e;omega);have hs1:=hxr.size;have hs2:=hx1.size
   go_wp2_with (at_builtin;refine app1 EB byteFlen byteOne rfl _ _ rfl r rfl (Ay ho1 ((Ab _).alloc _)) rfl (by exact Au (byteF r) (blk_new _ _)) (by have h2:=HLK.out;omega) (by have h2:=HLK.out;unfold maxLen;omega) (by simp;omega) ?_)
   intro v' w' ho' hg';have h2:=Bn (S:=_) hg' (fun k hk=>hk);have hxa:Chg (at1 g) w w':=Chg.up ((hxr.t hx1).ext ((Ab w1).alloc _)) h2 (fun i hi=>.inr (ho.block i hi).1);have hcc:Cur g cv cd w':=Cur.kept hc (hc1.ext ((Ab w1).alloc _)) h2 (fun hk=>by have h3:=(ho.block g hk).1;omega) hxa;clear h2;clear hg' ho1
   go_wp2_with fail
   go_roundg (gk - 1)
   case measure=>have h2:=HGK.out;omega
   case rel=>exact⟨k+1,_,by have h2:=HGK.out;omega,congrArg (Value.int .i64) (by first | omega | (unfold wrap64;omega)),by have h2:=HLK.out;simp;omega,HU2,ho',hcc,hxa⟩
  have hge:¬ (k:Int)<(m:Int):=by omega
  go_wp2_with fail
  go_ret
  exact⟨_,rfl,l,by have h2:=HLK.out;omega,HU,ho,hcr,hxr⟩
theorem s_l26Draw (g:Nat)  (cv:Value) (cd:List Int) (w:World) (hc:Cur g cv cd w) :
  Calls Tryz.prog 36 #[.pointer (some ⟨g,0,none⟩)] w fun e w'=>∃ (v1 v2 u0 u1:Value) (t:Topo) (x:Pkt),e=.returned (.tuple #[.agg #[v1,v2],.agg #[.int .i64 x.kind,.int .i64 x.src,.int .i64 x.dst,u0,.int .i64 x.pi,.int .i64 x.hi,.int .i64 x.beta,.int .i64 x.rid,.int .i64 x.seq,u1]])∧TopoOk t∧PktBd x∧(Own.keep ASd.rep).own (rng w.heap.size w'.heap.size) w' v1 t.ases∧(Own.keep Lnk.rep).own (rng w.heap.size w'.heap.size) w' v2 t.links∧(Own.keep Part.rep).own (rng w.heap.size w'.heap.size) w' u0 x.path.parts∧(Own.keep Rep.byte).own (rng w.heap.size w'.heap.size) w' u1 x.pay∧Cur g cv cd w'∧Chg (at1 g) w w':=by
 obtain⟨hx0,HB⟩:=ea2 w (.cells #[.slice none 0 0,.slice none 0 0] 27) (.cells #[.int .i64 0,.int .i64 0,.int .i64 0,.slice none 0 0,.int .i64 0,.int .i64 0,.int .i64 0,.int .i64 0,.int .i64 0,.slice none 0 0] 35);have hgw:=hc.lt
 have s:DSt g cv cd w ((w.alloc (.cells #[.slice none 0 0,.slice none 0 0] 27)).alloc (.cells #[.int .i64 0,.int .i64 0,.int .i64 0,.slice none 0 0,.int .i64 0,.int .i64 0,.int .i64 0,.int .i64 0,.int .i64 0,.slice none 0 0] 35)):=⟨hc.ext hx0,Ar hx0,hc⟩
 have B2:=HB.1;have B3:=HB.2;clear HB hx0
 go_enter Tryz.func36,Tryz.ntmps36
 go_wp2_with fail
 have hbs:w.heap.size≤((w.alloc (.cells #[.slice none 0 0,.slice none 0 0] 27)).alloc (.cells #[.int .i64 0,.int .i64 0,.int .i64 0,.slice none 0 0,.int .i64 0,.int .i64 0,.int .i64 0,.int .i64 0,.int .i64 0,.slice none 0 0] 35)).heap.size:=s.x.size;have ltq_B2:w.heap.size<((w.alloc (.cells #[.slice none 0 0,.slice none 0 0] 27)).alloc (.cells #[.int .i64 0,.int .i64 0,.int .i64 0,.slice none 0 0,.int .i64 0,.int .i64 0,.int .i64 0,.int .i64 0,.int .i64 0,.slice none 0 0] 35)).heap.size:=blk_lt B2;have ltq_B3:(w.heap.size+1)<((w.alloc (.cells #[.slice none 0 0,.slice none 0 0] 27)).alloc (.cells #[.int .i64 0,.int .i64 0,.int .i64 0,.slice none 0 0,.int .i64 0,.int .i64 0,.int .i64 0,.int .i64 0,.int .i64 0,.slice none 0 0] 35)).heap.size:=blk_lt B3;refine(s_l22Draw g _ _ _ s.c).mono ?_;rintro e w1 ⟨v1,v2,vp,t,p,m,rfl,TK,PD,hm1,hm2,RA,RL,RP0,hcq,hzq⟩;replace B2:=hzq.blkS B2 (by unfold at1;omega);replace B3:=hzq.blkS B3 (by unfold at1;omega);replace s:=s.draw hcq hzq;replace RA:=Bg RA (Ae _);replace RL:=Bg RL (Ae _);have RP:=Cd (Be RP0) hm1;clear RP0;obtain⟨o1,c1,rfl,_⟩:=Bf (Own.rd _ RA);obtain⟨o2,c2,rfl,_⟩:=Bf (Own.rd _ RL);obtain⟨op_,cp_,rfl,_⟩:=Bf (Own.rd _ RP);have hps:=PD.size;have hpl:=PD.len
 have hph:∀ y∈p.parts,y.hops.length≤5:=fun y hy=>(PD.part y hy).len.2
 have g_RA:g<((w.alloc (.cells #[.slice none 0 0,.slice none 0 0] 27)).alloc (.cells #[.int .i64 0,.int .i64 0,.int .i64 0,.slice none 0 0,.int .i64 0,.int .i64 0,.int .i64 0,.int .i64 0,.int .i64 0,.slice none 0 0] 35)).heap.size:=by omega
 have u_RA:w1.heap.size≤w1.heap.size:=by omega
 have lt_B2_RA:w.heap.size<((w.alloc (.cells #[.slice none 0 0,.slice none 0 0] 27)).alloc (.cells #[.int .i64 0,.int .i64 0,.int .i64 0,.slice none 0 0,.int .i64 0,.int .i64 0,.int .i64 0,.int .i64 0,.int .i64 0,.slice none 0 0] 35)).heap.size:=by omega
 have lt_B3_RA:(w.heap.size+1)<((w.alloc (.cells #[.slice none 0 0,.slice none 0 0] 27)).alloc (.cells #[.int .i64 0,.int .i64 0,.int .i64 0,.slice none 0 0,.int .i64 0,.int .i64 0,.int .i64 0,.int .i64 0,.int .i64 0,.slice none 0 0] 35)).heap.size:=by omega
 have g_RL:g<((w.alloc (.cells #[.slice none 0 0,.slice none 0 0] 27)).alloc (.cells #[.int .i64 0,.int .i64 0,.int .i64 0,.slice none 0 0,.int .i64 0,.int .i64 0,.int .i64 0,.int .i64 0,.int .i64 0,.slice none 0 0] 35)).heap.size:=by omega
 have u_RL:w1.heap.size≤w1.heap.size:=by omega
 have lt_B2_RL:w.heap.size<((w.alloc (.cells #[.slice none 0 0,.slice none 0 0] 27)).alloc (.cells #[.int .i64 0,.int .i64 0,.int .i64 0,.slice none 0 0,.int .i64 0,.int .i64 0,.int .i64 0,.int .i64 0,.int .i64 0,.slice none 0 0] 35)).heap.size:=by omega
 have lt_B3_RL:(w.heap.size+1)<((w.alloc (.cells #[.slice none 0 0,.slice none 0 0] 27)).alloc (.cells #[.int .i64 0,.int .i64 0,.int .i64 0,.slice none 0 0,.int .i64 0,.int .i64 0,.int .i64 0,.int .i64 0,.int .i64 0,.slice none 0 0] 35)).heap.size:=by omega
 have g_RP:g<((w.alloc (.cells #[.slice none 0 0,.slice none 0 0] 27)).alloc (.cells #[.int .i64 0,.int .i64 0,.int .i64 0,.slice none 0 0,.int .i64 0,.int .i64 0,.int .i64 0,.int .i64 0,.int .i64 0,.slice none 0 0] 35)).heap.size:=by omega
 have u_RP:w1.heap.size≤w1.heap.size:=by omega
 have lt_B2_RP:w.heap.size<((w.alloc (.cells #[.slice none 0 0,.slice none 0 0] 27)).alloc (.cells #[.int .i64 0,.int .i64 0,.int .i64 0,.slice none 0 0,.int .i64 0,.int .i64 0,.int .i64 0,.int .i64 0,.int .i64 0,.slice none 0 0] 35)).heap.size:=by omega
 have lt_B3_RP:(w.heap.size+1)<((w.alloc (.cells #[.slice none 0 0,.slice none 0 0] 27)).alloc (.cells #[.int .i64 0,.int .i64 0,.int .i64 0,.slice none 0 0,.int .i64 0,.int .i64 0,.int .i64 0,.int .i64 0,.int .i64 0,.slice none 0 0] 35)).heap.size:=by omega
 clear hzq hcq hbs ltq_B2 ltq_B3;have cb_B2:=blk2 B2;have cb_B3:=blk10 B3
 go_upto_region 2 with (fail)
 clear cb_B2 cb_B3;obtain⟨hxa,BB⟩:=ea2 w1 (.cells #[.slice o1 t.ases.length c1,.slice o2 t.links.length c2] 27) (.cells #[.slice op_ p.parts.length cp_] 30)
 obtain⟨b4,eb4⟩:∃ b,b=w1.heap.size:=⟨_,rfl⟩
 have ltw_b4:w.heap.size≤b4:=by rw [eb4];exact s.x.size
 have lt_B2_b4:w.heap.size<b4:=by rw [eb4];exact blk_lt B2
 have lt_B3_b4:(w.heap.size+1)<b4:=by rw [eb4];exact blk_lt B3
 have hb_RA_b4:w1.heap.size≤b4:=by rw [eb4];exact u_RA
 have hb_RL_b4:w1.heap.size≤b4:=by rw [eb4];exact u_RL
 have hb_RP_b4:w1.heap.size≤b4:=by rw [eb4];exact u_RP
 replace B2:=Aa hxa B2;replace B3:=Aa hxa B3;replace RA:=Aj RA hxa;replace u_RA:=Ad u_RA hxa.size;replace RL:=Aj RL hxa;replace u_RL:=Ad u_RL hxa.size;replace RP:=Aj RP hxa;replace u_RP:=Ad u_RP hxa.size;replace s:=s.ext hxa;have B4:=BB.1;have B5:=BB.2;rw [← eb4] at B4 B5;rw [← eb4];clear hxa BB;generalize ((w1.alloc (.cells #[.slice o1 t.ases.length c1,.slice o2 t.links.length c2] 27)).alloc (.cells #[.slice op_ p.parts.length cp_] 30))=wa at B2 B3 B4 B5 RA RL RP u_RA u_RL u_RP s ⊢
 clear eb4;have cb_B2:=blk2 B2;have cb_B3:=blk10 B3;have cb_B4:=blk2 B4;have cb_B5:=blk1 B5
 go_wp2_with fail
 clear cb_B2 cb_B3 cb_B4 cb_B5;refine(s_l1Below g (3) _ _ _ s.c).mono ?_;rintro e w2 ⟨kd,rfl,hkd0,hkd1,hcq,hzq⟩;replace B2:=hzq.blkS B2 (by unfold at1;omega);replace B3:=hzq.blkS B3 (by unfold at1;omega);replace B4:=hzq.blkS B4 (by unfold at1;omega);replace B5:=hzq.blkS B5 (by unfold at1;omega);replace RA:=Af RA hzq (.inl g_RA);replace u_RA:=Ad u_RA hzq.size;replace RL:=Af RL hzq (.inl g_RL);replace u_RL:=Ad u_RL hzq.size;replace RP:=Af RP hzq (.inl g_RP);replace u_RP:=Ad u_RP hzq.size;replace s:=s.draw hcq hzq;clear hzq hcq;have cb_B2:=blk2 B2;have cb_B3:=blk10 B3;have cb_B4:=blk2 B4;have cb_B5:=blk1 B5
 go_wp2_with fail
 clear cb_B2 cb_B3 cb_B4 cb_B5;refine(s_l1Below g (9) _ _ _ s.c).mono ?_;rintro e w3 ⟨sq,rfl,hsq0,hsq1,hcq,hzq⟩;replace B2:=hzq.blkS B2 (by unfold at1;omega);replace B3:=hzq.blkS B3 (by unfold at1;omega);replace B4:=hzq.blkS B4 (by unfold at1;omega);replace B5:=hzq.blkS B5 (by unfold at1;omega);replace RA:=Af RA hzq (.inl g_RA);replace u_RA:=Ad u_RA hzq.size;replace RL:=Af RL hzq (.inl g_RL);replace u_RL:=Ad u_RL hzq.size;replace RP:=Af RP hzq (.inl g_RP);replace u_RP:=Ad u_RP hzq.size;replace s:=s.draw hcq hzq;clear hzq hcq;have cb_B2:=blk2 B2;have cb_B3:=blk10 B3;have cb_B4:=blk2 B4;have cb_B5:=blk1 B5
 go_upto_region 4 with (fail)
 clear cb_B2 cb_B3 cb_B4 cb_B5;refine Bl (fun k=>k=g∨k=w.heap.size) [([0,1,2,3,5,6,7],4),([],8),([],9),([],10),([],11)] [] [12] (by kernel_rfl) (by kernel_rfl) (by kernel_rfl) ?_;have ch_B4:=blk2 B4;have q0:=Cj (S:=fun k=>k=g∨k=w.heap.size) ch_B4 (by first | omega | (unfold at1;omega) | (simp only;omega));clear ch_B4;have ch_B5:=blk1 B5;have q2:=Aw (S:=fun k=>k=g∨k=w.heap.size) (ch_B5) (by first | (unfold at1;simp only;omega) | (simp only;omega));clear ch_B5;simp only [wpBlocksX,pickOps,PK];have hch:Chg (fun k=>k=g∨k=w.heap.size) w3 w3.drew:=Ar (Ab w3).drew;replace B2:=Aa ((Ab w3).drew) B2;replace B3:=Aa ((Ab w3).drew) B3;replace B4:=Aa ((Ab w3).drew) B4;replace B5:=Aa ((Ab w3).drew) B5;replace RA:=Aj RA ((Ab w3).drew);replace u_RA:=Ad u_RA ((Ab w3).drew).size;replace RL:=Aj RL ((Ab w3).drew);replace u_RL:=Ad u_RL ((Ab w3).drew).size;replace RP:=Aj RP ((Ab w3).drew);replace u_RP:=Ad u_RP ((Ab w3).drew).size;replace s:=s.ext ((Ab w3).drew)
 obtain⟨wd,hnw⟩:∃ wn,wn=w3.drew:=⟨_,rfl⟩
 rw [← hnw] at B2 B3 B4 B5 RA RL RP u_RA u_RL u_RP s hch ⊢
 clear hnw
 repeat (first | go_big_quiet_step (fail) | quiet_step (fail))
 refine wpQuiet_nil ?_
 go_wp2_with fail
 refine(s_l1Below g (3) _ _ _ s.c).mono ?_;rintro e w4 ⟨ri,rfl,hri0,hri1,hcq,hzq⟩;replace B2:=hzq.blkS B2 (by unfold at1;omega);replace B3:=hzq.blkS B3 (by unfold at1;omega);replace B4:=hzq.blkS B4 (by unfold at1;omega);replace B5:=hzq.blkS B5 (by unfold at1;omega);replace RA:=Af RA hzq (.inl g_RA);replace u_RA:=Ad u_RA hzq.size;replace RL:=Af RL hzq (.inl g_RL);replace u_RL:=Ad u_RL hzq.size;replace RP:=Af RP hzq (.inl g_RP);replace u_RP:=Ad u_RP hzq.size;replace s:=s.draw hcq hzq;replace hch:=hch.trans (hzq.mono (fun b h=>.inl h));clear hzq hcq
 go_wp2_with fail
 refine⟨⟨⟨_,hch⟩,rfl⟩,?_⟩
 repeat (first | go_big_quiet_step (fail) | quiet_step (fail))
 refine wpQuiet_nil ?_
 go_wp2_with fail
 refine(s_l1Below g (4) _ _ _ s.c).mono ?_;rintro e w5 ⟨nb,rfl,hnb0,hnb1,hcq,hzq⟩;replace B2:=hzq.blkS B2 (by unfold at1;omega);replace B3:=hzq.blkS B3 (by unfold at1;omega);replace B4:=hzq.blkS B4 (by unfold at1;omega);replace B5:=hzq.blkS B5 (by unfold at1;omega);replace RA:=Af RA hzq (.inl g_RA);replace u_RA:=Ad u_RA hzq.size;replace RL:=Af RL hzq (.inl g_RL);replace u_RL:=Ad u_RL hzq.size;replace RP:=Af RP hzq (.inl g_RP);replace u_RP:=Ad u_RP hzq.size;replace s:=s.draw hcq hzq;replace hch:=hch.trans (hzq.mono (fun b h=>.inl h));clear hzq hcq
 go_wp2_with fail
 refine⟨⟨⟨_,hch⟩,rfl⟩,?_⟩
 repeat (first | go_big_quiet_step (fail) | quiet_step (fail))
 refine wpQuiet_nil ?_;have hnb2:nb≤3:=by omega
 clear hnb1
 go_wp2_with fail
 have hbs:w.heap.size≤w5.heap.size:=s.x.size;have ltq_B2:w.heap.size<w5.heap.size:=blk_lt B2;have ltq_B3:(w.heap.size+1)<w5.heap.size:=blk_lt B3;have ltq_B4:b4<w5.heap.size:=blk_lt B4;have ltq_B5:(b4+1)<w5.heap.size:=blk_lt B5;refine(s_l1Bytes g nb _ _ _ s.c (by omega) (by omega)).mono ?_;rintro e w6 ⟨vy,yl,rfl,hyl,HYU,oY,hcq,hzq⟩;replace B2:=hzq.blkS B2 (by unfold at1;omega);replace B3:=hzq.blkS B3 (by unfold at1;omega);replace B4:=hzq.blkS B4 (by unfold at1;omega);replace B5:=hzq.blkS B5 (by unfold at1;omega);replace RA:=Af RA hzq (.inl g_RA);replace u_RA:=Ad u_RA hzq.size;replace RL:=Af RL hzq (.inl g_RL);replace u_RL:=Ad u_RL hzq.size;replace RP:=Af RP hzq (.inl g_RP);replace u_RP:=Ad u_RP hzq.size;replace s:=s.draw hcq hzq;replace hch:=hch.trans (hzq.mono (fun b h=>.inl h));have RY:(Own.keep Rep.byte).own (rng w5.heap.size w6.heap.size) w6 vy yl:=Be (Own.ofFr (hf:=byteFlen) oY (Ae _));clear oY;obtain⟨oy,cy,rfl,_⟩:=Bf (Own.rd _ RY);have hyl2:yl.length≤3:=by omega
 clear hyl;have g_RY:g<w5.heap.size:=by omega
 have u_RY:w6.heap.size≤w6.heap.size:=by omega
 have lt_B2_RY:w.heap.size<w5.heap.size:=by omega
 have lt_B3_RY:(w.heap.size+1)<w5.heap.size:=by omega
 have lt_B4_RY:b4<w5.heap.size:=by omega
 have lt_B5_RY:(b4+1)<w5.heap.size:=by omega
 clear hzq hcq hbs ltq_B2 ltq_B3 ltq_B4 ltq_B5
 go_wp2_with fail
 refine⟨⟨⟨_,hch⟩,rfl⟩,?_⟩
 repeat (first | go_big_quiet_step (fail) | quiet_step (fail))
 refine wpQuiet_nil ?_
 go_wp2_with fail
 have hbs:w.heap.size≤w6.heap.size:=s.x.size;have ltq_B2:w.heap.size<w6.heap.size:=blk_lt B2;have ltq_B3:(w.heap.size+1)<w6.heap.size:=blk_lt B3;have ltq_B4:b4<w6.heap.size:=blk_lt B4;have ltq_B5:(b4+1)<w6.heap.size:=blk_lt B5;refine(s_NewPacket (1+kd) p _ ri sq yl _ _ (Own.rd _ RP) (Own.rd _ RY) (by omega) (by omega)).mono ?_;rintro e w7 ⟨u0,u1,rfl,OX,hzq⟩;replace B2:=Aa hzq B2;replace B3:=Aa hzq B3;replace B4:=Aa hzq B4;replace B5:=Aa hzq B5;replace RA:=Aj RA hzq;replace u_RA:=Ad u_RA hzq.size;replace RL:=Aj RL hzq;replace u_RL:=Ad u_RL hzq.size;replace RP:=Aj RP hzq;replace u_RP:=Ad u_RP hzq.size;replace RY:=Aj RY hzq;replace u_RY:=Ad u_RY hzq.size;replace s:=s.ext hzq;replace hch:=hch.trans ((Ar hzq))
 obtain⟨x,hx⟩:∃ x,x=newPkt (1+kd) p ri sq yl:=⟨_,rfl⟩
 rw [← hx] at OX ⊢
 have hxb:PktBd x:=by rw [hx];exact⟨by show p.parts.length≤4;omega,hph,hyl2,HYU.out⟩
 have HX:=Ac hx;clear hx;have R0:=Pkt.keep0 OX;have R1:=Pkt.keep1 OX;clear OX;obtain⟨o_0,c_0,rfl,_⟩:=Bf (Own.rd _ R0);obtain⟨o_1,c_1,rfl,_⟩:=Bf (Own.rd _ R1);have g_R0:g<w6.heap.size:=by omega
 have u_R0:w7.heap.size≤w7.heap.size:=by omega
 have lt_B2_R0:w.heap.size<w6.heap.size:=by omega
 have lt_B3_R0:(w.heap.size+1)<w6.heap.size:=by omega
 have lt_B4_R0:b4<w6.heap.size:=by omega
 have lt_B5_R0:(b4+1)<w6.heap.size:=by omega
 have g_R1:g<w6.heap.size:=by omega
 have u_R1:w7.heap.size≤w7.heap.size:=by omega
 have lt_B2_R1:w.heap.size<w6.heap.size:=by omega
 have lt_B3_R1:(w.heap.size+1)<w6.heap.size:=by omega
 have lt_B4_R1:b4<w6.heap.size:=by omega
 have lt_B5_R1:(b4+1)<w6.heap.size:=by omega
 clear hzq hbs ltq_B2 ltq_B3 ltq_B4 ltq_B5
 go_wp2_with fail
 refine⟨⟨⟨_,hch⟩,rfl⟩,?_⟩
 repeat (first | go_big_quiet_step (fail) | quiet_step (fail))
 refine wpQuiet_nil ?_;obtain⟨wpa,hwa,hba,hca⟩:=two_set B2 (.slice o1 t.ases.length c1) (.slice o2 t.links.length c2);have HWa:=Ac hwa;clear hwa;have ff0:=fr2 B2;have cb:=blk2 B2
 go_wp2_with fail
 rw [← HWa.out];clear HWa cb ff0;replace hch:=hch.trans (hca.mono (fun b h=>.inr h));refine⟨⟨⟨_,hch⟩,rfl⟩,?_⟩;replace RA:=Af RA hca (by omega);replace u_RA:=Ad u_RA hca.size;replace RL:=Af RL hca (by omega);replace u_RL:=Ad u_RL hca.size;replace RP:=Af RP hca (by omega);replace u_RP:=Ad u_RP hca.size;replace RY:=Af RY hca (by omega);replace u_RY:=Ad u_RY hca.size;replace R0:=Af R0 hca (by omega);replace u_R0:=Ad u_R0 hca.size;replace R1:=Af R1 hca (by omega);replace u_R1:=Ad u_R1 hca.size;replace B3:=hca.blkS B3 (by unfold at1;omega);replace B4:=hca.blkS B4 (by unfold at1;omega);replace B5:=hca.blkS B5 (by unfold at1;omega);replace B2:=hba;clear hba;replace s:=s.put hca (fun i hi=>by have h1:i=w.heap.size:=hi;omega)
 try clear hca
 repeat (first | go_big_quiet_step (fail) | quiet_step (fail))
 refine wpQuiet_nil ?_;obtain⟨wpb,hwb,hbb,hcb⟩:=ten_set B3 (.int .i64 x.kind) (.int .i64 x.src) (.int .i64 x.dst) (.slice o_0 x.path.parts.length c_0) (.int .i64 x.pi) (.int .i64 x.hi) (.int .i64 x.beta) (.int .i64 x.rid) (.int .i64 x.seq) (.slice o_1 x.pay.length c_1);have HWb:=Ac hwb;clear hwb;have ff0:=fr10 B3;have cb:=blk10 B3
 go_wp2_with fail
 rw [← HWb.out];clear HWb cb ff0;replace RA:=Af RA hcb (by omega);replace u_RA:=Ad u_RA hcb.size;replace RL:=Af RL hcb (by omega);replace u_RL:=Ad u_RL hcb.size;replace RP:=Af RP hcb (by omega);replace u_RP:=Ad u_RP hcb.size;replace RY:=Af RY hcb (by omega);replace u_RY:=Ad u_RY hcb.size;replace R0:=Af R0 hcb (by omega);replace u_R0:=Ad u_R0 hcb.size;replace R1:=Af R1 hcb (by omega);replace u_R1:=Ad u_R1 hcb.size;replace B2:=hcb.blkS B2 (by unfold at1;omega);replace B4:=hcb.blkS B4 (by unfold at1;omega);replace B5:=hcb.blkS B5 (by unfold at1;omega);replace B3:=hbb;clear hbb;replace s:=s.put hcb (fun i hi=>by have h1:i=(w.heap.size+1):=hi;omega)
 try clear hcb
 refine NoPanic.normal ?_;clear hch q0 q2;have cr_B2:=blk2 B2;have cr_B3:=blk10 B3;have cr_B4:=blk2 B4;have cr_B5:=blk1 B5;have hszE:=s.x.size
 go_wp2_with fail
 refine bodyPost_ret (by simp [results,Tryz.results36,go_sem,cr_B2,cr_B3] <;> rfl) rfl ?_;exact⟨_,_,_,_,t,x,rfl,TK,hxb,(Bg (Cd RA (by omega)) (Ae _)),(Bg (Cd RL (by omega)) (Ae _)),(Bg (Cd R0 (by omega)) (Ae _)),(Bg (Cd R1 (by omega)) (Ae _)),s.c,s.x⟩
theorem s_l26Any (g:Nat)  (cv:Value) (cd:List Int) (w:World) (hc:Cur g cv cd w) :
  Calls Tryz.prog 38 #[.pointer (some ⟨g,0,none⟩)] w fun e w'=>∃ (v1 v2 u0 u1:Value) (t:Topo) (x:Pkt),e=.returned (.tuple #[.agg #[v1,v2],.agg #[.int .i64 x.kind,.int .i64 x.src,.int .i64 x.dst,u0,.int .i64 x.pi,.int .i64 x.hi,.int .i64 x.beta,.int .i64 x.rid,.int .i64 x.seq,u1]])∧TopoOk t∧PktBd x∧(Own.keep ASd.rep).own (rng w.heap.size w'.heap.size) w' v1 t.ases∧(Own.keep Lnk.rep).own (rng w.heap.size w'.heap.size) w' v2 t.links∧(Own.keep Part.rep).own (rng w.heap.size w'.heap.size) w' u0 x.path.parts∧(Own.keep Rep.byte).own (rng w.heap.size w'.heap.size) w' u1 x.pay∧Cur g cv cd w'∧Chg (at1 g) w w':=by
 obtain⟨hx0,HB⟩:=ea2 w (.cells #[.slice none 0 0,.slice none 0 0] 27) (.cells #[.int .i64 0,.int .i64 0,.int .i64 0,.slice none 0 0,.int .i64 0,.int .i64 0,.int .i64 0,.int .i64 0,.int .i64 0,.slice none 0 0] 35);have hgw:=hc.lt
 have s:DSt g cv cd w ((w.alloc (.cells #[.slice none 0 0,.slice none 0 0] 27)).alloc (.cells #[.int .i64 0,.int .i64 0,.int .i64 0,.slice none 0 0,.int .i64 0,.int .i64 0,.int .i64 0,.int .i64 0,.int .i64 0,.slice none 0 0] 35)):=⟨hc.ext hx0,Ar hx0,hc⟩
 have B2:=HB.1;have B3:=HB.2;clear HB hx0
 go_enter Tryz.func38,Tryz.ntmps38
 go_wp2_with fail
 have hbs:w.heap.size≤((w.alloc (.cells #[.slice none 0 0,.slice none 0 0] 27)).alloc (.cells #[.int .i64 0,.int .i64 0,.int .i64 0,.slice none 0 0,.int .i64 0,.int .i64 0,.int .i64 0,.int .i64 0,.int .i64 0,.slice none 0 0] 35)).heap.size:=s.x.size;have ltq_B2:w.heap.size<((w.alloc (.cells #[.slice none 0 0,.slice none 0 0] 27)).alloc (.cells #[.int .i64 0,.int .i64 0,.int .i64 0,.slice none 0 0,.int .i64 0,.int .i64 0,.int .i64 0,.int .i64 0,.int .i64 0,.slice none 0 0] 35)).heap.size:=blk_lt B2;have ltq_B3:(w.heap.size+1)<((w.alloc (.cells #[.slice none 0 0,.slice none 0 0] 27)).alloc (.cells #[.int .i64 0,.int .i64 0,.int .i64 0,.slice none 0 0,.int .i64 0,.int .i64 0,.int .i64 0,.int .i64 0,.int .i64 0,.slice none 0 0] 35)).heap.size:=blk_lt B3;refine(s_l26Draw g _ _ _ s.c).mono ?_;rintro e w1 ⟨v1,v2,u0,u1,t,x,rfl,TK,hxb,RA,RL,R0,R1,hcq,hzq⟩;replace B2:=hzq.blkS B2 (by unfold at1;omega);replace B3:=hzq.blkS B3 (by unfold at1;omega);replace s:=s.draw hcq hzq;obtain⟨o1,c1,rfl,_⟩:=Bf (Own.rd _ RA);obtain⟨o2,c2,rfl,_⟩:=Bf (Own.rd _ RL);obtain⟨o_0,c_0,rfl,_⟩:=Bf (Own.rd _ R0);obtain⟨o_1,c_1,rfl,_⟩:=Bf (Own.rd _ R1)
 have g_RA:g<((w.alloc (.cells #[.slice none 0 0,.slice none 0 0] 27)).alloc (.cells #[.int .i64 0,.int .i64 0,.int .i64 0,.slice none 0 0,.int .i64 0,.int .i64 0,.int .i64 0,.int .i64 0,.int .i64 0,.slice none 0 0] 35)).heap.size:=by omega
 have u_RA:w1.heap.size≤w1.heap.size:=by omega
 have lt_B2_RA:w.heap.size<((w.alloc (.cells #[.slice none 0 0,.slice none 0 0] 27)).alloc (.cells #[.int .i64 0,.int .i64 0,.int .i64 0,.slice none 0 0,.int .i64 0,.int .i64 0,.int .i64 0,.int .i64 0,.int .i64 0,.slice none 0 0] 35)).heap.size:=by omega
 have lt_B3_RA:(w.heap.size+1)<((w.alloc (.cells #[.slice none 0 0,.slice none 0 0] 27)).alloc (.cells #[.int .i64 0,.int .i64 0,.int .i64 0,.slice none 0 0,.int .i64 0,.int .i64 0,.int .i64 0,.int .i64 0,.int .i64 0,.slice none 0 0] 35)).heap.size:=by omega
 have g_RL:g<((w.alloc (.cells #[.slice none 0 0,.slice none 0 0] 27)).alloc (.cells #[.int .i64 0,.int .i64 0,.int .i64 0,.slice none 0 0,.int .i64 0,.int .i64 0,.int .i64 0,.int .i64 0,.int .i64 0,.slice none 0 0] 35)).heap.size:=by omega
 have u_RL:w1.heap.size≤w1.heap.size:=by omega
 have lt_B2_RL:w.heap.size<((w.alloc (.cells #[.slice none 0 0,.slice none 0 0] 27)).alloc (.cells #[.int .i64 0,.int .i64 0,.int .i64 0,.slice none 0 0,.int .i64 0,.int .i64 0,.int .i64 0,.int .i64 0,.int .i64 0,.slice none 0 0] 35)).heap.size:=by omega
 have lt_B3_RL:(w.heap.size+1)<((w.alloc (.cells #[.slice none 0 0,.slice none 0 0] 27)).alloc (.cells #[.int .i64 0,.int .i64 0,.int .i64 0,.slice none 0 0,.int .i64 0,.int .i64 0,.int .i64 0,.int .i64 0,.int .i64 0,.slice none 0 0] 35)).heap.size:=by omega
 have g_R0:g<((w.alloc (.cells #[.slice none 0 0,.slice none 0 0] 27)).alloc (.cells #[.int .i64 0,.int .i64 0,.int .i64 0,.slice none 0 0,.int .i64 0,.int .i64 0,.int .i64 0,.int .i64 0,.int .i64 0,.slice none 0 0] 35)).heap.size:=by omega
 have u_R0:w1.heap.size≤w1.heap.size:=by omega
 have lt_B2_R0:w.heap.size<((w.alloc (.cells #[.slice none 0 0,.slice none 0 0] 27)).alloc (.cells #[.int .i64 0,.int .i64 0,.int .i64 0,.slice none 0 0,.int .i64 0,.int .i64 0,.int .i64 0,.int .i64 0,.int .i64 0,.slice none 0 0] 35)).heap.size:=by omega
 have lt_B3_R0:(w.heap.size+1)<((w.alloc (.cells #[.slice none 0 0,.slice none 0 0] 27)).alloc (.cells #[.int .i64 0,.int .i64 0,.int .i64 0,.slice none 0 0,.int .i64 0,.int .i64 0,.int .i64 0,.int .i64 0,.int .i64 0,.slice none 0 0] 35)).heap.size:=by omega
 have g_R1:g<((w.alloc (.cells #[.slice none 0 0,.slice none 0 0] 27)).alloc (.cells #[.int .i64 0,.int .i64 0,.int .i64 0,.slice none 0 0,.int .i64 0,.int .i64 0,.int .i64 0,.int .i64 0,.int .i64 0,.slice none 0 0] 35)).heap.size:=by omega
 have u_R1:w1.heap.size≤w1.heap.size:=by omega
 have lt_B2_R1:w.heap.size<((w.alloc (.cells #[.slice none 0 0,.slice none 0 0] 27)).alloc (.cells #[.int .i64 0,.int .i64 0,.int .i64 0,.slice none 0 0,.int .i64 0,.int .i64 0,.int .i64 0,.int .i64 0,.int .i64 0,.slice none 0 0] 35)).heap.size:=by omega
 have lt_B3_R1:(w.heap.size+1)<((w.alloc (.cells #[.slice none 0 0,.slice none 0 0] 27)).alloc (.cells #[.int .i64 0,.int .i64 0,.int .i64 0,.slice none 0 0,.int .i64 0,.int .i64 0,.int .i64 0,.int .i64 0,.int .i64 0,.slice none 0 0] 35)).heap.size:=by omega
 clear hzq hcq hbs ltq_B2 ltq_B3;have cb_B2:=blk2 B2;have cb_B3:=blk10 B3
 go_upto_region 2 with (fail)
 clear cb_B2 cb_B3;obtain⟨hxa,BB⟩:=ea2 w1 (.cells #[.slice o1 t.ases.length c1,.slice o2 t.links.length c2] 27) (.cells #[.int .i64 x.kind,.int .i64 x.src,.int .i64 x.dst,.slice o_0 x.path.parts.length c_0,.int .i64 x.pi,.int .i64 x.hi,.int .i64 x.beta,.int .i64 x.rid,.int .i64 x.seq,.slice o_1 x.pay.length c_1] 35)
 obtain⟨b4,eb4⟩:∃ b,b=w1.heap.size:=⟨_,rfl⟩
 have ltw_b4:w.heap.size≤b4:=by rw [eb4];exact s.x.size
 have lt_B2_b4:w.heap.size<b4:=by rw [eb4];exact blk_lt B2
 have lt_B3_b4:(w.heap.size+1)<b4:=by rw [eb4];exact blk_lt B3
 have hb_RA_b4:w1.heap.size≤b4:=by rw [eb4];exact u_RA
 have hb_RL_b4:w1.heap.size≤b4:=by rw [eb4];exact u_RL
 have hb_R0_b4:w1.heap.size≤b4:=by rw [eb4];exact u_R0
 have hb_R1_b4:w1.heap.size≤b4:=by rw [eb4];exact u_R1
 replace B2:=Aa hxa B2;replace B3:=Aa hxa B3;replace RA:=Aj RA hxa;replace u_RA:=Ad u_RA hxa.size;replace RL:=Aj RL hxa;replace u_RL:=Ad u_RL hxa.size;replace R0:=Aj R0 hxa;replace u_R0:=Ad u_R0 hxa.size;replace R1:=Aj R1 hxa;replace u_R1:=Ad u_R1 hxa.size;replace s:=s.ext hxa;have B4:=BB.1;have B5:=BB.2;rw [← eb4] at B4 B5;rw [← eb4];clear hxa BB;generalize ((w1.alloc (.cells #[.slice o1 t.ases.length c1,.slice o2 t.links.length c2] 27)).alloc (.cells #[.int .i64 x.kind,.int .i64 x.src,.int .i64 x.dst,.slice o_0 x.path.parts.length c_0,.int .i64 x.pi,.int .i64 x.hi,.int .i64 x.beta,.int .i64 x.rid,.int .i64 x.seq,.slice o_1 x.pay.length c_1] 35))=wa at B2 B3 B4 B5 RA RL R0 R1 u_RA u_RL u_R0 u_R1 s ⊢
 clear eb4;have cb_B2:=blk2 B2;have cb_B3:=blk10 B3;have cb_B4:=blk2 B4;have cb_B5:=blk10 B5
 go_wp2_with fail
 clear cb_B2 cb_B3 cb_B4 cb_B5;refine(s_l1Below g (14) _ _ _ s.c).mono ?_;rintro e w2 ⟨q,rfl,hq0,hq1,hcq,hzq⟩;replace B2:=hzq.blkS B2 (by unfold at1;omega);replace B3:=hzq.blkS B3 (by unfold at1;omega);replace B4:=hzq.blkS B4 (by unfold at1;omega);replace B5:=hzq.blkS B5 (by unfold at1;omega);replace RA:=Af RA hzq (.inl g_RA);replace u_RA:=Ad u_RA hzq.size;replace RL:=Af RL hzq (.inl g_RL);replace u_RL:=Ad u_RL hzq.size;replace R0:=Af R0 hzq (.inl g_R0);replace u_R0:=Ad u_R0 hzq.size;replace R1:=Af R1 hzq (.inl g_R1);replace u_R1:=Ad u_R1 hzq.size;replace s:=s.draw hcq hzq;clear hzq hcq;have cb_B2:=blk2 B2;have cb_B3:=blk10 B3;have cb_B4:=blk2 B4;have cb_B5:=blk10 B5
 go_upto_block 0 with fail
 clear cb_B2 cb_B3 cb_B4 cb_B5
 go_cut [] (fun  wx=>∃ (y:Pkt) (un:Value) (lo:Nat) (hi:Nat),(PktBd y)∧(Hid (y.pay=x.pay))∧(g<lo)∧(w.heap.size+1<lo)∧wx.heap[w.heap.size]?=some (.cells #[.slice none 0 0,.slice none 0 0] 27 (0,0))∧wx.heap[(w.heap.size+1)]?=some (.cells #[.int .i64 0,.int .i64 0,.int .i64 0,.slice none 0 0,.int .i64 0,.int .i64 0,.int .i64 0,.int .i64 0,.int .i64 0,.slice none 0 0] 35 (0,0))∧wx.heap[b4]?=some (.cells #[.slice o1 t.ases.length c1,.slice o2 t.links.length c2] 27 (0,0))∧wx.heap[(b4+1)]?=some (.cells #[.int .i64 y.kind,.int .i64 y.src,.int .i64 y.dst,un,.int .i64 y.pi,.int .i64 y.hi,.int .i64 y.beta,.int .i64 y.rid,.int .i64 y.seq,.slice o_1 x.pay.length c_1] 35 (0,0))∧((Own.keep ASd.rep).own (rng ((w.alloc (.cells #[.slice none 0 0,.slice none 0 0] 27)).alloc (.cells #[.int .i64 0,.int .i64 0,.int .i64 0,.slice none 0 0,.int .i64 0,.int .i64 0,.int .i64 0,.int .i64 0,.int .i64 0,.slice none 0 0] 35)).heap.size w1.heap.size) wx (.slice o1 t.ases.length c1) t.ases∧w1.heap.size≤wx.heap.size)∧((Own.keep Lnk.rep).own (rng ((w.alloc (.cells #[.slice none 0 0,.slice none 0 0] 27)).alloc (.cells #[.int .i64 0,.int .i64 0,.int .i64 0,.slice none 0 0,.int .i64 0,.int .i64 0,.int .i64 0,.int .i64 0,.int .i64 0,.slice none 0 0] 35)).heap.size w1.heap.size) wx (.slice o2 t.links.length c2) t.links∧w1.heap.size≤wx.heap.size)∧((Own.keep Part.rep).own (rng lo hi) wx un y.path.parts∧hi≤wx.heap.size)∧((Own.keep Rep.byte).own (rng ((w.alloc (.cells #[.slice none 0 0,.slice none 0 0] 27)).alloc (.cells #[.int .i64 0,.int .i64 0,.int .i64 0,.slice none 0 0,.int .i64 0,.int .i64 0,.int .i64 0,.int .i64 0,.int .i64 0,.slice none 0 0] 35)).heap.size w1.heap.size) wx (.slice o_1 x.pay.length c_1) x.pay∧w1.heap.size≤wx.heap.size)∧Cur g cv cd wx∧Chg (at1 g) w wx)
 case first=>
  by_cases q0:q=0
  ·
   subst q0;have cb_B2:=blk2 B2;have cb_B3:=blk10 B3;have cb_B4:=blk2 B4;have cb_B5:=blk10 B5
   go_wp2_with fail
   clear cb_B2 cb_B3 cb_B4 cb_B5;refine(s_l1Below g (4) _ _ _ s.c).mono ?_;rintro e w3 ⟨z,rfl,hz0,hz1,hcq,hzq⟩;replace B2:=hzq.blkS B2 (by unfold at1;omega);replace B3:=hzq.blkS B3 (by unfold at1;omega);replace B4:=hzq.blkS B4 (by unfold at1;omega);replace B5:=hzq.blkS B5 (by unfold at1;omega);replace RA:=Af RA hzq (.inl g_RA);replace u_RA:=Ad u_RA hzq.size;replace RL:=Af RL hzq (.inl g_RL);replace u_RL:=Ad u_RL hzq.size;replace R0:=Af R0 hzq (.inl g_R0);replace u_R0:=Ad u_R0 hzq.size;replace R1:=Af R1 hzq (.inl g_R1);replace u_R1:=Ad u_R1 hzq.size;replace s:=s.draw hcq hzq;clear hzq hcq;obtain⟨wpn,hwn,hbn,hcn⟩:=one_set B5 4 (.int .i64 (z - 1));simp only [List.setIfInBounds_toArray,List.set_cons_succ,List.set_cons_zero] at hbn;have HWn:=Ac hwn;clear hwn;have ff0:=fr10 B5;have cb_B2:=blk2 B2;have cb_B3:=blk10 B3;have cb_B4:=blk2 B4;have cb_B5:=blk10 B5
   go_wp2_with fail
   clear cb_B2 cb_B3 cb_B4 cb_B5;rw [← HWn.out];clear HWn ff0;replace RA:=Af RA hcn (by omega);replace u_RA:=Ad u_RA hcn.size;replace RL:=Af RL hcn (by omega);replace u_RL:=Ad u_RL hcn.size;replace R0:=Af R0 hcn (by omega);replace u_R0:=Ad u_R0 hcn.size;replace R1:=Af R1 hcn (by omega);replace u_R1:=Ad u_R1 hcn.size;replace B2:=hcn.blkS B2 (by unfold at1;omega);replace B3:=hcn.blkS B3 (by unfold at1;omega);replace B4:=hcn.blkS B4 (by unfold at1;omega);replace B5:=hbn;clear hbn;replace s:=s.put hcn (fun i hi=>by have h1:i=(b4+1):=hi;omega)
   try clear hcn
   go_wp2_with fail
   go_meet
   exact⟨{ x with pi:=(z - 1) },_,_,_,⟨hxb.parts,hxb.hops,hxb.pay,hxb.u8⟩,Ac rfl,g_R0,lt_B3_R0,B2,B3,B4,B5,⟨RA,u_RA⟩,⟨RL,u_RL⟩,⟨R0,u_R0⟩,⟨R1,u_R1⟩,s.c,s.x⟩
  have q0f:(q == 0)=false:=by rw [beq_eq_false_iff_ne];exact q0
  by_cases q1:q=1
  ·
   subst q1;have cb_B2:=blk2 B2;have cb_B3:=blk10 B3;have cb_B4:=blk2 B4;have cb_B5:=blk10 B5
   go_wp2_with fail
   clear cb_B2 cb_B3 cb_B4 cb_B5;refine(s_l1Below g (4) _ _ _ s.c).mono ?_;rintro e w3 ⟨z,rfl,hz0,hz1,hcq,hzq⟩;replace B2:=hzq.blkS B2 (by unfold at1;omega);replace B3:=hzq.blkS B3 (by unfold at1;omega);replace B4:=hzq.blkS B4 (by unfold at1;omega);replace B5:=hzq.blkS B5 (by unfold at1;omega);replace RA:=Af RA hzq (.inl g_RA);replace u_RA:=Ad u_RA hzq.size;replace RL:=Af RL hzq (.inl g_RL);replace u_RL:=Ad u_RL hzq.size;replace R0:=Af R0 hzq (.inl g_R0);replace u_R0:=Ad u_R0 hzq.size;replace R1:=Af R1 hzq (.inl g_R1);replace u_R1:=Ad u_R1 hzq.size;replace s:=s.draw hcq hzq;clear hzq hcq;obtain⟨wpn,hwn,hbn,hcn⟩:=one_set B5 5 (.int .i64 (z - 1));simp only [List.setIfInBounds_toArray,List.set_cons_succ,List.set_cons_zero] at hbn;have HWn:=Ac hwn;clear hwn;have ff0:=fr10 B5;have cb_B2:=blk2 B2;have cb_B3:=blk10 B3;have cb_B4:=blk2 B4;have cb_B5:=blk10 B5
   go_wp2_with fail
   clear cb_B2 cb_B3 cb_B4 cb_B5;rw [← HWn.out];clear HWn ff0;replace RA:=Af RA hcn (by omega);replace u_RA:=Ad u_RA hcn.size;replace RL:=Af RL hcn (by omega);replace u_RL:=Ad u_RL hcn.size;replace R0:=Af R0 hcn (by omega);replace u_R0:=Ad u_R0 hcn.size;replace R1:=Af R1 hcn (by omega);replace u_R1:=Ad u_R1 hcn.size;replace B2:=hcn.blkS B2 (by unfold at1;omega);replace B3:=hcn.blkS B3 (by unfold at1;omega);replace B4:=hcn.blkS B4 (by unfold at1;omega);replace B5:=hbn;clear hbn;replace s:=s.put hcn (fun i hi=>by have h1:i=(b4+1):=hi;omega)
   try clear hcn
   go_wp2_with fail
   go_meet
   exact⟨{ x with hi:=(z - 1) },_,_,_,⟨hxb.parts,hxb.hops,hxb.pay,hxb.u8⟩,Ac rfl,g_R0,lt_B3_R0,B2,B3,B4,B5,⟨RA,u_RA⟩,⟨RL,u_RL⟩,⟨R0,u_R0⟩,⟨R1,u_R1⟩,s.c,s.x⟩
  have q1f:(q == 1)=false:=by rw [beq_eq_false_iff_ne];exact q1
  by_cases q2:q=2
  ·
   subst q2;have cb_B2:=blk2 B2;have cb_B3:=blk10 B3;have cb_B4:=blk2 B4;have cb_B5:=blk10 B5
   go_wp2_with fail
   clear cb_B2 cb_B3 cb_B4 cb_B5;refine(s_l3Word g _ _ _ s.c).mono ?_;rintro e w3 ⟨z,rfl,hz0,hz1,hcq,hzq⟩;replace B2:=hzq.blkS B2 (by unfold at1;omega);replace B3:=hzq.blkS B3 (by unfold at1;omega);replace B4:=hzq.blkS B4 (by unfold at1;omega);replace B5:=hzq.blkS B5 (by unfold at1;omega);replace RA:=Af RA hzq (.inl g_RA);replace u_RA:=Ad u_RA hzq.size;replace RL:=Af RL hzq (.inl g_RL);replace u_RL:=Ad u_RL hzq.size;replace R0:=Af R0 hzq (.inl g_R0);replace u_R0:=Ad u_R0 hzq.size;replace R1:=Af R1 hzq (.inl g_R1);replace u_R1:=Ad u_R1 hzq.size;replace s:=s.draw hcq hzq;clear hzq hcq;obtain⟨wpn,hwn,hbn,hcn⟩:=one_set B5 6 (.int .i64 z);simp only [List.setIfInBounds_toArray,List.set_cons_succ,List.set_cons_zero] at hbn;have HWn:=Ac hwn;clear hwn;have ff0:=fr10 B5;have cb_B2:=blk2 B2;have cb_B3:=blk10 B3;have cb_B4:=blk2 B4;have cb_B5:=blk10 B5
   go_wp2_with fail
   clear cb_B2 cb_B3 cb_B4 cb_B5;rw [← HWn.out];clear HWn ff0;replace RA:=Af RA hcn (by omega);replace u_RA:=Ad u_RA hcn.size;replace RL:=Af RL hcn (by omega);replace u_RL:=Ad u_RL hcn.size;replace R0:=Af R0 hcn (by omega);replace u_R0:=Ad u_R0 hcn.size;replace R1:=Af R1 hcn (by omega);replace u_R1:=Ad u_R1 hcn.size;replace B2:=hcn.blkS B2 (by unfold at1;omega);replace B3:=hcn.blkS B3 (by unfold at1;omega);replace B4:=hcn.blkS B4 (by unfold at1;omega);replace B5:=hbn;clear hbn;replace s:=s.put hcn (fun i hi=>by have h1:i=(b4+1):=hi;omega)
   try clear hcn
   go_wp2_with fail
   go_meet
   exact⟨{ x with beta:=z },_,_,_,⟨hxb.parts,hxb.hops,hxb.pay,hxb.u8⟩,Ac rfl,g_R0,lt_B3_R0,B2,B3,B4,B5,⟨RA,u_RA⟩,⟨RL,u_RL⟩,⟨R0,u_R0⟩,⟨R1,u_R1⟩,s.c,s.x⟩
  have q2f:(q == 2)=false:=by rw [beq_eq_false_iff_ne];exact q2
  by_cases q3:q=3
  ·
   subst q3;have cb_B2:=blk2 B2;have cb_B3:=blk10 B3;have cb_B4:=blk2 B4;have cb_B5:=blk10 B5
   go_wp2_with fail
   clear cb_B2 cb_B3 cb_B4 cb_B5;refine(s_l1Below g (9) _ _ _ s.c).mono ?_;rintro e w3 ⟨z,rfl,hz0,hz1,hcq,hzq⟩;replace B2:=hzq.blkS B2 (by unfold at1;omega);replace B3:=hzq.blkS B3 (by unfold at1;omega);replace B4:=hzq.blkS B4 (by unfold at1;omega);replace B5:=hzq.blkS B5 (by unfold at1;omega);replace RA:=Af RA hzq (.inl g_RA);replace u_RA:=Ad u_RA hzq.size;replace RL:=Af RL hzq (.inl g_RL);replace u_RL:=Ad u_RL hzq.size;replace R0:=Af R0 hzq (.inl g_R0);replace u_R0:=Ad u_R0 hzq.size;replace R1:=Af R1 hzq (.inl g_R1);replace u_R1:=Ad u_R1 hzq.size;replace s:=s.draw hcq hzq;clear hzq hcq;obtain⟨wpn,hwn,hbn,hcn⟩:=one_set B5 2 (.int .i64 z);simp only [List.setIfInBounds_toArray,List.set_cons_succ,List.set_cons_zero] at hbn;have HWn:=Ac hwn;clear hwn;have ff0:=fr10 B5;have cb_B2:=blk2 B2;have cb_B3:=blk10 B3;have cb_B4:=blk2 B4;have cb_B5:=blk10 B5
   go_wp2_with fail
   clear cb_B2 cb_B3 cb_B4 cb_B5;rw [← HWn.out];clear HWn ff0;replace RA:=Af RA hcn (by omega);replace u_RA:=Ad u_RA hcn.size;replace RL:=Af RL hcn (by omega);replace u_RL:=Ad u_RL hcn.size;replace R0:=Af R0 hcn (by omega);replace u_R0:=Ad u_R0 hcn.size;replace R1:=Af R1 hcn (by omega);replace u_R1:=Ad u_R1 hcn.size;replace B2:=hcn.blkS B2 (by unfold at1;omega);replace B3:=hcn.blkS B3 (by unfold at1;omega);replace B4:=hcn.blkS B4 (by unfold at1;omega);replace B5:=hbn;clear hbn;replace s:=s.put hcn (fun i hi=>by have h1:i=(b4+1):=hi;omega)
   try clear hcn
   go_wp2_with fail
   go_meet
   exact⟨{ x with dst:=z },_,_,_,⟨hxb.parts,hxb.hops,hxb.pay,hxb.u8⟩,Ac rfl,g_R0,lt_B3_R0,B2,B3,B4,B5,⟨RA,u_RA⟩,⟨RL,u_RL⟩,⟨R0,u_R0⟩,⟨R1,u_R1⟩,s.c,s.x⟩
  have q3f:(q == 3)=false:=by rw [beq_eq_false_iff_ne];exact q3
  by_cases q4:q=4
  ·
   subst q4;have cb_B2:=blk2 B2;have cb_B3:=blk10 B3;have cb_B4:=blk2 B4;have cb_B5:=blk10 B5
   go_wp2_with fail
   clear cb_B2 cb_B3 cb_B4 cb_B5;refine(s_l1Int g [-1,100000,100001] _ _ w2 s.c (by decide) (by decide)).mono ?_;rintro e w3 ⟨z,rfl,hzm,hcq,hzq⟩;replace B2:=hzq.blkS B2 (by unfold at1;omega);replace B3:=hzq.blkS B3 (by unfold at1;omega);replace B4:=hzq.blkS B4 (by unfold at1;omega);replace B5:=hzq.blkS B5 (by unfold at1;omega);replace RA:=Af RA hzq (.inl g_RA);replace u_RA:=Ad u_RA hzq.size;replace RL:=Af RL hzq (.inl g_RL);replace u_RL:=Ad u_RL hzq.size;replace R0:=Af R0 hzq (.inl g_R0);replace u_R0:=Ad u_R0 hzq.size;replace R1:=Af R1 hzq (.inl g_R1);replace u_R1:=Ad u_R1 hzq.size;replace s:=s.draw hcq hzq;clear hcq hzq hzm;obtain⟨wpn,hwn,hbn,hcn⟩:=one_set B5 8 (.int .i64 z);simp only [List.setIfInBounds_toArray,List.set_cons_succ,List.set_cons_zero] at hbn;have HWn:=Ac hwn;clear hwn;have ff0:=fr10 B5;have cb_B2:=blk2 B2;have cb_B3:=blk10 B3;have cb_B4:=blk2 B4;have cb_B5:=blk10 B5
   go_wp2_with fail
   clear cb_B2 cb_B3 cb_B4 cb_B5;rw [← HWn.out];clear HWn ff0;replace RA:=Af RA hcn (by omega);replace u_RA:=Ad u_RA hcn.size;replace RL:=Af RL hcn (by omega);replace u_RL:=Ad u_RL hcn.size;replace R0:=Af R0 hcn (by omega);replace u_R0:=Ad u_R0 hcn.size;replace R1:=Af R1 hcn (by omega);replace u_R1:=Ad u_R1 hcn.size;replace B2:=hcn.blkS B2 (by unfold at1;omega);replace B3:=hcn.blkS B3 (by unfold at1;omega);replace B4:=hcn.blkS B4 (by unfold at1;omega);replace B5:=hbn;clear hbn;replace s:=s.put hcn (fun i hi=>by have h1:i=(b4+1):=hi;omega)
   try clear hcn
   go_wp2_with fail
   go_meet
   exact⟨{ x with seq:=z },_,_,_,⟨hxb.parts,hxb.hops,hxb.pay,hxb.u8⟩,Ac rfl,g_R0,lt_B3_R0,B2,B3,B4,B5,⟨RA,u_RA⟩,⟨RL,u_RL⟩,⟨R0,u_R0⟩,⟨R1,u_R1⟩,s.c,s.x⟩
  have q4f:(q == 4)=false:=by rw [beq_eq_false_iff_ne];exact q4
  by_cases q5:q=5
  ·
   subst q5;have cb_B2:=blk2 B2;have cb_B3:=blk10 B3;have cb_B4:=blk2 B4;have cb_B5:=blk10 B5
   go_wp2_with fail
   clear cb_B2 cb_B3 cb_B4 cb_B5;have hbs:w.heap.size≤w2.heap.size:=s.x.size;have ltq_B2:w.heap.size<w2.heap.size:=blk_lt B2;have ltq_B3:(w.heap.size+1)<w2.heap.size:=blk_lt B3;have ltq_B4:b4<w2.heap.size:=blk_lt B4;have ltq_B5:(b4+1)<w2.heap.size:=blk_lt B5;refine(s_l22Any g _ _ _ s.c).mono ?_;rintro e w3 ⟨w1_,w2_,vp,t2,p,rfl,_,hp4,hph,RB,RM,RP,hcq,hzq⟩;replace B2:=hzq.blkS B2 (by unfold at1;omega);replace B3:=hzq.blkS B3 (by unfold at1;omega);replace B4:=hzq.blkS B4 (by unfold at1;omega);replace B5:=hzq.blkS B5 (by unfold at1;omega);replace RA:=Af RA hzq (.inl g_RA);replace u_RA:=Ad u_RA hzq.size;replace RL:=Af RL hzq (.inl g_RL);replace u_RL:=Ad u_RL hzq.size;replace R0:=Af R0 hzq (.inl g_R0);replace u_R0:=Ad u_R0 hzq.size;replace R1:=Af R1 hzq (.inl g_R1);replace u_R1:=Ad u_R1 hzq.size;replace s:=s.draw hcq hzq;obtain⟨ox1,cx1,rfl,_⟩:=Bf (Own.rd _ RB);obtain⟨ox2,cx2,rfl,_⟩:=Bf (Own.rd _ RM);clear RB RM;obtain⟨op_,cp_,rfl,_⟩:=Bf (Own.rd _ RP);have g_RP:g<w2.heap.size:=by omega
   have u_RP:w3.heap.size≤w3.heap.size:=by omega
   have lt_B2_RP:w.heap.size<w2.heap.size:=by omega
   have lt_B3_RP:(w.heap.size+1)<w2.heap.size:=by omega
   have lt_B4_RP:b4<w2.heap.size:=by omega
   have lt_B5_RP:(b4+1)<w2.heap.size:=by omega
   clear hzq hcq hbs ltq_B2 ltq_B3 ltq_B4 ltq_B5;have cb_B2:=blk2 B2;have cb_B3:=blk10 B3;have cb_B4:=blk2 B4;have cb_B5:=blk10 B5
   go_upto_region 15 with (fail)
   clear cb_B2 cb_B3 cb_B4 cb_B5;obtain⟨hxa,BB⟩:=ea2 w3 (.cells #[.slice ox1 t2.ases.length cx1,.slice ox2 t2.links.length cx2] 27) (.cells #[.slice op_ p.parts.length cp_] 30)
   obtain⟨b6,eb6⟩:∃ b,b=w3.heap.size:=⟨_,rfl⟩
   have ltw_b6:w.heap.size≤b6:=by rw [eb6];exact s.x.size
   have lt_B2_b6:w.heap.size<b6:=by rw [eb6];exact blk_lt B2
   have lt_B3_b6:(w.heap.size+1)<b6:=by rw [eb6];exact blk_lt B3
   have lt_B4_b6:b4<b6:=by rw [eb6];exact blk_lt B4
   have lt_B5_b6:(b4+1)<b6:=by rw [eb6];exact blk_lt B5
   have hb_RA_b6:w1.heap.size≤b6:=by rw [eb6];exact u_RA
   have hb_RL_b6:w1.heap.size≤b6:=by rw [eb6];exact u_RL
   have hb_R0_b6:w1.heap.size≤b6:=by rw [eb6];exact u_R0
   have hb_R1_b6:w1.heap.size≤b6:=by rw [eb6];exact u_R1
   have hb_RP_b6:w3.heap.size≤b6:=by rw [eb6];exact u_RP
   replace B2:=Aa hxa B2;replace B3:=Aa hxa B3;replace B4:=Aa hxa B4;replace B5:=Aa hxa B5;replace RA:=Aj RA hxa;replace u_RA:=Ad u_RA hxa.size;replace RL:=Aj RL hxa;replace u_RL:=Ad u_RL hxa.size;replace R0:=Aj R0 hxa;replace u_R0:=Ad u_R0 hxa.size;replace R1:=Aj R1 hxa;replace u_R1:=Ad u_R1 hxa.size;replace RP:=Aj RP hxa;replace u_RP:=Ad u_RP hxa.size;replace s:=s.ext hxa;have B6:=BB.1;have B7:=BB.2;rw [← eb6] at B6 B7;rw [← eb6];clear hxa BB;generalize ((w3.alloc (.cells #[.slice ox1 t2.ases.length cx1,.slice ox2 t2.links.length cx2] 27)).alloc (.cells #[.slice op_ p.parts.length cp_] 30))=wb at B2 B3 B4 B5 B6 B7 RA RL R0 R1 RP u_RA u_RL u_R0 u_R1 u_RP s ⊢
   clear eb6;obtain⟨wpn,hwn,hbn,hcn⟩:=one_set B5 3 (.slice op_ p.parts.length cp_);simp only [List.setIfInBounds_toArray,List.set_cons_succ,List.set_cons_zero] at hbn;have HWn:=Ac hwn;clear hwn;have ff0:=fr10 B5;have cb_B2:=blk2 B2;have cb_B3:=blk10 B3;have cb_B4:=blk2 B4;have cb_B5:=blk10 B5;have cb_B6:=blk2 B6;have cb_B7:=blk1 B7
   go_wp2_with fail
   clear cb_B2 cb_B3 cb_B4 cb_B5 cb_B6 cb_B7;rw [← HWn.out];clear HWn ff0;replace RA:=Af RA hcn (by omega);replace u_RA:=Ad u_RA hcn.size;replace RL:=Af RL hcn (by omega);replace u_RL:=Ad u_RL hcn.size;replace R0:=Af R0 hcn (by omega);replace u_R0:=Ad u_R0 hcn.size;replace R1:=Af R1 hcn (by omega);replace u_R1:=Ad u_R1 hcn.size;replace RP:=Af RP hcn (by omega);replace u_RP:=Ad u_RP hcn.size;replace B2:=hcn.blkS B2 (by unfold at1;omega);replace B3:=hcn.blkS B3 (by unfold at1;omega);replace B4:=hcn.blkS B4 (by unfold at1;omega);replace B6:=hcn.blkS B6 (by unfold at1;omega);replace B7:=hcn.blkS B7 (by unfold at1;omega);replace B5:=hbn;clear hbn;replace s:=s.put hcn (fun i hi=>by have h1:i=(b4+1):=hi;omega)
   try clear hcn
   go_wp2_with fail
   go_meet
   exact⟨{ x with path:=p },_,_,_,⟨hp4,hph,hxb.pay,hxb.u8⟩,Ac rfl,g_RP,lt_B3_RP,B2,B3,B4,B5,⟨RA,u_RA⟩,⟨RL,u_RL⟩,⟨RP,u_RP⟩,⟨R1,u_R1⟩,s.c,s.x⟩
  have q5f:(q == 5)=false:=by rw [beq_eq_false_iff_ne];exact q5
  by_cases q6:q=6
  ·
   subst q6;have cb_B2:=blk2 B2;have cb_B3:=blk10 B3;have cb_B4:=blk2 B4;have cb_B5:=blk10 B5
   go_wp2_with fail
   clear cb_B2 cb_B3 cb_B4 cb_B5;refine(s_l1Below g (6) _ _ _ s.c).mono ?_;rintro e w3 ⟨z,rfl,hz0,hz1,hcq,hzq⟩;replace B2:=hzq.blkS B2 (by unfold at1;omega);replace B3:=hzq.blkS B3 (by unfold at1;omega);replace B4:=hzq.blkS B4 (by unfold at1;omega);replace B5:=hzq.blkS B5 (by unfold at1;omega);replace RA:=Af RA hzq (.inl g_RA);replace u_RA:=Ad u_RA hzq.size;replace RL:=Af RL hzq (.inl g_RL);replace u_RL:=Ad u_RL hzq.size;replace R0:=Af R0 hzq (.inl g_R0);replace u_R0:=Ad u_R0 hzq.size;replace R1:=Af R1 hzq (.inl g_R1);replace u_R1:=Ad u_R1 hzq.size;replace s:=s.draw hcq hzq;clear hzq hcq;obtain⟨wpn,hwn,hbn,hcn⟩:=one_set B5 0 (.int .i64 (z - 1));simp only [List.setIfInBounds_toArray,List.set_cons_zero] at hbn;have HWn:=Ac hwn;clear hwn;have ff0:=fr10 B5;have cb_B2:=blk2 B2;have cb_B3:=blk10 B3;have cb_B4:=blk2 B4;have cb_B5:=blk10 B5
   go_wp2_with fail
   clear cb_B2 cb_B3 cb_B4 cb_B5;rw [← HWn.out];clear HWn ff0;replace RA:=Af RA hcn (by omega);replace u_RA:=Ad u_RA hcn.size;replace RL:=Af RL hcn (by omega);replace u_RL:=Ad u_RL hcn.size;replace R0:=Af R0 hcn (by omega);replace u_R0:=Ad u_R0 hcn.size;replace R1:=Af R1 hcn (by omega);replace u_R1:=Ad u_R1 hcn.size;replace B2:=hcn.blkS B2 (by unfold at1;omega);replace B3:=hcn.blkS B3 (by unfold at1;omega);replace B4:=hcn.blkS B4 (by unfold at1;omega);replace B5:=hbn;clear hbn;replace s:=s.put hcn (fun i hi=>by have h1:i=(b4+1):=hi;omega)
   try clear hcn
   go_wp2_with fail
   go_meet
   exact⟨{ x with kind:=(z - 1) },_,_,_,⟨hxb.parts,hxb.hops,hxb.pay,hxb.u8⟩,Ac rfl,g_R0,lt_B3_R0,B2,B3,B4,B5,⟨RA,u_RA⟩,⟨RL,u_RL⟩,⟨R0,u_R0⟩,⟨R1,u_R1⟩,s.c,s.x⟩
  have q6f:(q == 6)=false:=by rw [beq_eq_false_iff_ne];exact q6
  go_wp2_with fail
  go_meet
  exact⟨x,_,_,_,hxb,Ac rfl,g_R0,lt_B3_R0,B2,B3,B4,B5,⟨RA,u_RA⟩,⟨RL,u_RL⟩,⟨R0,u_R0⟩,⟨R1,u_R1⟩,s.c,s.x⟩
 case rest=>
  have hc0z:=s.c0;clear s B2 B3 B4 B5 RA RL R0 R1 u_RA u_RL u_R0 u_R1;obtain⟨y,un,lo,hi,hyb,hyp,hlo1,hlo2,B2,B3,B4,B5,⟨RA,u_RA⟩,⟨RL,u_RL⟩,⟨R0,u_R0⟩,⟨R1,u_R1⟩,hcC,hcX⟩:=hcut
  obtain⟨wz,hwz⟩:∃ wz:World,wz=wc:=⟨_,rfl⟩
  subst hwz
  have s:DSt g cv cd w wz:=⟨hcC,hcX,hc0z⟩
  clear hcC hcX hc0z;obtain⟨ou_,cu_,rfl,_⟩:=Bf (Own.rd _ R0);clear g_R0 lt_B2_R0 lt_B3_R0;have g_R0:g<lo:=hlo1;have lt_B2_R0:w.heap.size<lo:=by omega
  have lt_B3_R0:w.heap.size+1<lo:=hlo2
  go_upto_region 18 with (fail)
  refine Bl (at1 w.heap.size) [([0,1],2)] [] [3] (by kernel_rfl) (by kernel_rfl) (by kernel_rfl) ?_;have ch_B4:=blk2 B4;have q0:=Cj (S:=at1 w.heap.size) ch_B4 (by first | omega | (unfold at1;omega) | (simp only;omega));clear ch_B4;have ch_B5:=blk10 B5;have q2:=ChgSW.c10 (S:=at1 w.heap.size) ch_B5 (by first | omega | (unfold at1;omega) | (simp only;omega));clear ch_B5;simp only [wpBlocksX,pickOps,PK];have hch:Chg (at1 w.heap.size) wz wz.drew:=Ar (Ab wz).drew;replace B2:=Aa ((Ab wz).drew) B2;replace B3:=Aa ((Ab wz).drew) B3;replace B4:=Aa ((Ab wz).drew) B4;replace B5:=Aa ((Ab wz).drew) B5;replace RA:=Aj RA ((Ab wz).drew);replace u_RA:=Ad u_RA ((Ab wz).drew).size;replace RL:=Aj RL ((Ab wz).drew);replace u_RL:=Ad u_RL ((Ab wz).drew).size;replace R0:=Aj R0 ((Ab wz).drew);replace u_R0:=Ad u_R0 ((Ab wz).drew).size;replace R1:=Aj R1 ((Ab wz).drew);replace u_R1:=Ad u_R1 ((Ab wz).drew).size;replace s:=s.ext ((Ab wz).drew)
  obtain⟨wt,hnw⟩:∃ wn,wn=wz.drew:=⟨_,rfl⟩
  rw [← hnw] at B2 B3 B4 B5 RA RL R0 R1 u_RA u_RL u_R0 u_R1 s hch ⊢
  clear hnw
  repeat (first | go_big_quiet_step (fail) | quiet_step (fail))
  refine wpQuiet_nil ?_;obtain⟨wpa,hwa,hba,hca⟩:=two_set B2 (.slice o1 t.ases.length c1) (.slice o2 t.links.length c2);have HWa:=Ac hwa;clear hwa;have ff0:=fr2 B2;have cb:=blk2 B2
  go_wp2_with fail
  rw [← HWa.out];clear HWa cb ff0;replace hch:=hch.trans (hca.mono (fun b h=>h));refine⟨⟨⟨_,hch⟩,rfl⟩,?_⟩;replace RA:=Af RA hca (by omega);replace u_RA:=Ad u_RA hca.size;replace RL:=Af RL hca (by omega);replace u_RL:=Ad u_RL hca.size;replace R0:=Af R0 hca (by omega);replace u_R0:=Ad u_R0 hca.size;replace R1:=Af R1 hca (by omega);replace u_R1:=Ad u_R1 hca.size;replace B3:=hca.blkS B3 (by unfold at1;omega);replace B4:=hca.blkS B4 (by unfold at1;omega);replace B5:=hca.blkS B5 (by unfold at1;omega);replace B2:=hba;clear hba;replace s:=s.put hca (fun i hi=>by have h1:i=w.heap.size:=hi;omega)
  try clear hca
  repeat (first | go_big_quiet_step (fail) | quiet_step (fail))
  refine wpQuiet_nil ?_;obtain⟨wpb,hwb,hbb,hcb⟩:=ten_set B3 (.int .i64 y.kind) (.int .i64 y.src) (.int .i64 y.dst) (.slice ou_ y.path.parts.length cu_) (.int .i64 y.pi) (.int .i64 y.hi) (.int .i64 y.beta) (.int .i64 y.rid) (.int .i64 y.seq) (.slice o_1 x.pay.length c_1);have HWb:=Ac hwb;clear hwb;have ff0:=fr10 B3;have cb:=blk10 B3
  go_wp2_with fail
  rw [← HWb.out];clear HWb cb ff0;replace RA:=Af RA hcb (by omega);replace u_RA:=Ad u_RA hcb.size;replace RL:=Af RL hcb (by omega);replace u_RL:=Ad u_RL hcb.size;replace R0:=Af R0 hcb (by omega);replace u_R0:=Ad u_R0 hcb.size;replace R1:=Af R1 hcb (by omega);replace u_R1:=Ad u_R1 hcb.size;replace B2:=hcb.blkS B2 (by unfold at1;omega);replace B4:=hcb.blkS B4 (by unfold at1;omega);replace B5:=hcb.blkS B5 (by unfold at1;omega);replace B3:=hbb;clear hbb;replace s:=s.put hcb (fun i hi=>by have h1:i=(w.heap.size+1):=hi;omega)
  try clear hcb
  refine NoPanic.normal ?_;clear hch q0 q2;have cr_B2:=blk2 B2;have cr_B3:=blk10 B3;have cr_B4:=blk2 B4;have cr_B5:=blk10 B5;have hszE:=s.x.size
  go_wp2_with fail
  refine bodyPost_ret (by simp [results,Tryz.results38,go_sem,cr_B2,cr_B3] <;> rfl) rfl ?_;exact⟨_,_,_,_,t,y,rfl,TK,hyb,(Bg (Cd RA (by omega)) (Ae _)),(Bg (Cd RL (by omega)) (Ae _)),(Bg (Cd R0 (by omega)) (Ae _)),by rw [hyp.out];exact(Bg (Cd R1 (by omega)) (Ae _)),s.c,s.x⟩
end
end Go.Proofs.YteodlcpeoaggbaaGreat
