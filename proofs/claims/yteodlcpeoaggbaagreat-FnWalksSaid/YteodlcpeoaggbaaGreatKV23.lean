/- What these laws need: FnOld, FnWalks: The draw of a path with a thing turned, and of the code. -/
import Derived.Deep.CutBlock
import Derived.Test.YteodlcpeoaggbaaGreatKV20
namespace Go.Proofs.YteodlcpeoaggbaaGreat
section
open Go.ChangeShapes Go.WideShapes Go.ChangeAt Go.RowKit Go.Deep
theorem set1 {w:World} {b:Nat} {x0:Value} {t:TypeId} (h:w.heap[b]?=some (.cells #[x0] t (0,0))) (y0:Value) :
  ∃ w5,w5=w.setCell ⟨b,0,none⟩ y0∧w5.heap[b]?=some (.cells #[y0] t (0,0))∧Chg (at1 b) w w5:=
 ⟨_,rfl,by simpa using blk_set h 0 y0,Bw (S:=at1 b) (p:=⟨b,0,none⟩) (Bq _ _) rfl y0⟩
theorem ten_set {w:World} {b:Nat} {x0 x1 x2 x3 x4 x5 x6 x7 x8 x9:Value} {t:TypeId} (h:w.heap[b]?=some (.cells #[x0,x1,x2,x3,x4,x5,x6,x7,x8,x9] t (0,0))) (y0 y1 y2 y3 y4 y5 y6 y7 y8 y9:Value) :
  ∃ w5,w5=(((((((((w.setCell ⟨b,0,none⟩ y0).setCell ⟨b,1,none⟩ y1).setCell ⟨b,2,none⟩ y2).setCell ⟨b,3,none⟩ y3).setCell ⟨b,4,none⟩ y4).setCell ⟨b,5,none⟩ y5).setCell ⟨b,6,none⟩ y6).setCell ⟨b,7,none⟩ y7).setCell ⟨b,8,none⟩ y8).setCell ⟨b,9,none⟩ y9∧w5.heap[b]?=some (.cells #[y0,y1,y2,y3,y4,y5,y6,y7,y8,y9] t (0,0))∧Chg (at1 b) w w5:=by
 have q (o:Nat) (u:Value) {wq:World} (h:Chg (at1 b) w wq):=Bw (S:=at1 b) (p:=⟨b,o,none⟩) h rfl u;exact⟨_,rfl,by simpa using blk_set (blk_set (blk_set (blk_set (blk_set (blk_set (blk_set (blk_set (blk_set (blk_set h 0 y0) 1 y1) 2 y2) 3 y3) 4 y4) 5 y5) 6 y6) 7 y7) 8 y8) 9 y9,q _ _ (q _ _ (q _ _ (q _ _ (q _ _ (q _ _ (q _ _ (q _ _ (q _ _ (q _ _ (Bq _ _))))))))))⟩
theorem part_block {lo hi:Nat} {w:World} {gp m cap:Nat} {l:List Part} (h:Part.own.own (rng lo hi) w (.slice (some ⟨gp,0,none⟩) m cap) l):lo≤gp∧gp<hi:=by
 obtain⟨qs,rfl,ho,hS,_⟩:=h;exact hS gp rfl
theorem part_put {lo hi:Nat} {w:World} {gp m cap:Nat} {l:List Part} (h:Part.own.own (rng lo hi) w (.slice (some ⟨gp,0,none⟩) m cap) l) (k:Nat) (hk:k<l.length) (j:Nat) (hj:j<4) (u:Value) (x:Part)
  (hx:x.hops=l[k].hops) (hc:∀ v,Part.c x v=(Part.c l[k] v).set j u) :
  ∃ w5,w5=w.setCell ⟨gp,k * 4+j,none⟩ u∧Part.own.own (rng lo hi) w5 (.slice (some ⟨gp,0,none⟩) m cap) (l.set k x)∧Chg (at1 gp) w w5:=by
 have hrow:=fun(qs:List (Cap Part)) (hq:qs.map (·.dat)=l) (hk':k<qs.length) (ho:OwnF (capF Part.c) 4 0 99 w (.slice (some ⟨gp,0,none⟩) m cap) qs)=>
  OwnF.put1 (f := capF Part.c) (fun _ => rfl) ho k hk' j hj u ⟨x, qs[k].val, qs[k].set⟩ (by
   have e : l[k] = qs[k].dat := by simp [← hq]
   show Part.c x qs[k].val = (Part.c qs[k].dat qs[k].val).set j u
   rw [← e]; exact hc _)
 refine⟨_,rfl,nest_row h k hk x hx (w2:=w.setCell ⟨gp,k * 4+j,none⟩ u) ?_ (fun qs hq hk' ho=>(hrow qs hq hk' ho).1),Bw (S:=at1 gp) (p:=⟨gp,k * 4+j,none⟩) (Bq _ _) rfl u⟩;obtain⟨qs,hq,ho,_⟩:=h;exact(hrow qs hq (by rw [← hq] at hk;simpa using hk) ho).2
theorem part_hops {lo hi:Nat} {w:World} {gp m cap:Nat} {l:List Part} (h:Part.own.own (rng lo hi) w (.slice (some ⟨gp,0,none⟩) m cap) l) (k:Nat) (hk:k<l.length) (h0:0<l[k].hops.length) :
  ∃ (gh ch:Nat),(∀ j v,(Part.c l[k] (.slice (some ⟨gh,0,none⟩) l[k].hops.length ch))[j]?=some v→w.cell? ⟨gp,k * 4+j,none⟩=some v)∧OwnF Hop.f 5 0 103 w (.slice (some ⟨gh,0,none⟩) l[k].hops.length ch) l[k].hops∧lo≤gh∧gh<hi∧gh≠gp:=by
 obtain⟨hv,T,hc,ho,hT,_⟩:=nest_at h k hk;obtain⟨gh,ch,rfl,_,hg⟩:=OwnF.some_shape ho.1 h0;obtain⟨h1,h2,h3⟩:=hT gh (ho.2 gh rfl);exact⟨gh,ch,hc,ho.1,h1.1,h1.2,h2⟩
theorem part_hop_set {lo hi:Nat} {w:World} {gp m cap gh ch:Nat} {l:List Part} (h:Part.own.own (rng lo hi) w (.slice (some ⟨gp,0,none⟩) m cap) l) (k:Nat) (hk:k<l.length) (i:Nat) (hi':i<l[k].hops.length)
  (hc:w.cell? ⟨gp,k * 4+3,none⟩=some (.slice (some ⟨gh,0,none⟩) l[k].hops.length ch)) (u:Int) :
  ∃ w5,w5=w.setCell ⟨gh,i * 5+4,none⟩ (.int .i64 u)∧Part.own.own (rng lo hi) w5 (.slice (some ⟨gp,0,none⟩) m cap) (l.set k { l[k] with hops:=l[k].hops.set i { l[k].hops[i] with mac:=u } })∧Chg (at1 gh) w w5:=by
 obtain⟨hv,T,hcc,ho,hT,hre⟩:=nest_at h k hk
 have e:hv=.slice (some ⟨gh,0,none⟩) l[k].hops.length ch:=by
  have:=hcc 3 hv rfl;rw [hc] at this;exact(Option.some.inj this).symm
 subst e;obtain⟨hp,hg⟩:=OwnF.put1 Ao ho.1 i hi' 4 (by decide) (.int .i64 u) { l[k].hops[i] with mac:=u } rfl;have hT2:T gh:=ho.2 gh rfl;have hch:Chg (at1 gh) w (w.setCell ⟨gh,i * 5+4,none⟩ (.int .i64 u)):=Bw (S:=at1 gh) (p:=⟨gh,i * 5+4,none⟩) (Bq _ _) rfl _;refine⟨_,rfl,hre _ { l[k] with hops:=l[k].hops.set i { l[k].hops[i] with mac:=u } } (hch.mono (fun b hb=>by have e:b=gh:=hb;rw [e];exact hT2)) ⟨?_,?_⟩ (by simp [Part.c]),hch⟩
 ·
  simpa using hp
 intro b hb;have e:b=gh:=by simpa [Value.ownBlock] using hb.symm
 rw [e];exact hT2
set_option maxRecDepth 100000 in
set_option maxHeartbeats 20000000 in
theorem s_l22Any (g:Nat)  (cv:Value) (cd:List Int) (w:World) (hc:Cur g cv cd w) :
  Calls Tryz.prog 90 #[.pointer (some ⟨g,0,none⟩)] w fun e w'=>∃ (v1 v2 vp:Value) (t:Topo) (p:Pth),e=.returned (.tuple #[.agg #[v1,v2],.agg #[vp]])∧TopoOk t∧p.parts.length≤4∧(∀ x∈p.parts,x.hops.length≤5)∧(Own.keep ASd.rep).own (rng w.heap.size w'.heap.size) w' v1 t.ases∧(Own.keep Lnk.rep).own (rng w.heap.size w'.heap.size) w' v2 t.links∧(Own.keep Part.rep).own (rng w.heap.size w'.heap.size) w' vp p.parts∧Cur g cv cd w'∧Chg (at1 g) w w':=by
 obtain⟨EP⟩:=elemPartD;obtain⟨hx0,HB⟩:=ea2 w (.cells #[.slice none 0 0,.slice none 0 0] 27) (.cells #[.slice none 0 0] 30);have hgw:=hc.lt
 have s:DSt g cv cd w ((w.alloc (.cells #[.slice none 0 0,.slice none 0 0] 27)).alloc (.cells #[.slice none 0 0] 30)):=⟨hc.ext hx0,Ar hx0,hc⟩
 have B2:=HB.1;have B3:=HB.2;clear HB hx0
 go_enter Tryz.func90,Tryz.ntmps90
 go_wp2_with fail
 have hbs:w.heap.size≤((w.alloc (.cells #[.slice none 0 0,.slice none 0 0] 27)).alloc (.cells #[.slice none 0 0] 30)).heap.size:=s.x.size;have ltq_B2:w.heap.size<((w.alloc (.cells #[.slice none 0 0,.slice none 0 0] 27)).alloc (.cells #[.slice none 0 0] 30)).heap.size:=blk_lt B2;have ltq_B3:(w.heap.size+1)<((w.alloc (.cells #[.slice none 0 0,.slice none 0 0] 27)).alloc (.cells #[.slice none 0 0] 30)).heap.size:=blk_lt B3;refine(s_l22Draw g _ _ _ s.c).mono ?_;rintro e w1 ⟨v1,v2,vp,t,p,m,rfl,TK,PD,hm1,hm2,RA,RL,RP,hcq,hzq⟩;replace B2:=hzq.blkS B2 (by unfold at1;omega);replace B3:=hzq.blkS B3 (by unfold at1;omega);replace s:=s.draw hcq hzq;obtain⟨o1,c1,rfl,_⟩:=Bf (Own.rd _ RA);obtain⟨o2,c2,rfl,_⟩:=Bf (Own.rd _ RL);obtain⟨op_,cp_,rfl,_⟩:=(Bs RP).shape;have hpl:=PD.len;have hph:∀ x∈p.parts,x.hops.length≤5:=fun x hx=>(PD.part x hx).len.2
 have g_RA:g<((w.alloc (.cells #[.slice none 0 0,.slice none 0 0] 27)).alloc (.cells #[.slice none 0 0] 30)).heap.size:=by omega
 have u_RA:m≤w1.heap.size:=by omega
 have lt_B2_RA:w.heap.size<((w.alloc (.cells #[.slice none 0 0,.slice none 0 0] 27)).alloc (.cells #[.slice none 0 0] 30)).heap.size:=by omega
 have lt_B3_RA:(w.heap.size+1)<((w.alloc (.cells #[.slice none 0 0,.slice none 0 0] 27)).alloc (.cells #[.slice none 0 0] 30)).heap.size:=by omega
 have g_RL:g<((w.alloc (.cells #[.slice none 0 0,.slice none 0 0] 27)).alloc (.cells #[.slice none 0 0] 30)).heap.size:=by omega
 have u_RL:m≤w1.heap.size:=by omega
 have lt_B2_RL:w.heap.size<((w.alloc (.cells #[.slice none 0 0,.slice none 0 0] 27)).alloc (.cells #[.slice none 0 0] 30)).heap.size:=by omega
 have lt_B3_RL:(w.heap.size+1)<((w.alloc (.cells #[.slice none 0 0,.slice none 0 0] 27)).alloc (.cells #[.slice none 0 0] 30)).heap.size:=by omega
 have g_RP:g<m:=by omega
 have u_RP:w1.heap.size≤w1.heap.size:=by omega
 have lt_B2_RP:w.heap.size<m:=by omega
 have lt_B3_RP:(w.heap.size+1)<m:=by omega
 clear hzq hcq hbs ltq_B2 ltq_B3;have cb_B2:=blk2 B2;have cb_B3:=blk1 B3
 go_upto_region 2 with (fail)
 clear cb_B2 cb_B3;obtain⟨hxa,BB⟩:=ea2 w1 (.cells #[.slice o1 t.ases.length c1,.slice o2 t.links.length c2] 27) (.cells #[.slice op_ p.parts.length cp_] 30)
 obtain⟨b4,eb4⟩:∃ b,b=w1.heap.size:=⟨_,rfl⟩
 have ltw_b4:w.heap.size≤b4:=by rw [eb4];exact s.x.size
 have lt_B2_b4:w.heap.size<b4:=by rw [eb4];exact blk_lt B2
 have lt_B3_b4:(w.heap.size+1)<b4:=by rw [eb4];exact blk_lt B3
 have hb_RA_b4:m≤b4:=by rw [eb4];exact u_RA
 have hb_RL_b4:m≤b4:=by rw [eb4];exact u_RL
 have hb_RP_b4:w1.heap.size≤b4:=by rw [eb4];exact u_RP
 replace B2:=Aa hxa B2;replace B3:=Aa hxa B3;replace RA:=Aj RA hxa;replace u_RA:=Ad u_RA hxa.size;replace RL:=Aj RL hxa;replace u_RL:=Ad u_RL hxa.size;replace RP:=Aj RP hxa;replace u_RP:=Ad u_RP hxa.size;replace s:=s.ext hxa;have B4:=BB.1;have B5:=BB.2;rw [← eb4] at B4 B5;rw [← eb4];clear hxa BB;generalize ((w1.alloc (.cells #[.slice o1 t.ases.length c1,.slice o2 t.links.length c2] 27)).alloc (.cells #[.slice op_ p.parts.length cp_] 30))=wa at B2 B3 B4 B5 RA RL RP u_RA u_RL u_RP s ⊢
 clear eb4;have hp0:p.parts.length=0∨0<p.parts.length:=by omega
 rcases hp0 with hp0 | hp0
 ·
  have hp1:((p.parts.length:Int) == 0)=true:=by simp;exact List.eq_nil_of_length_eq_zero hp0
  have cb_B2:=blk2 B2;have cb_B3:=blk1 B3;have cb_B4:=blk2 B4;have cb_B5:=blk1 B5
  go_upto_region 3 with (fail)
  clear cb_B2 cb_B3 cb_B4 cb_B5;clear hp1 hp0;replace RP:=Be RP;refine Bl (at1 w.heap.size) [([0,1],2)] [] [3] (by kernel_rfl) (by kernel_rfl) (by kernel_rfl) ?_;have ch_B4:=blk2 B4;have q0:=Cj (S:=at1 w.heap.size) ch_B4 (by first | omega | (unfold at1;omega) | (simp only;omega));clear ch_B4;have ch_B5:=blk1 B5;have q2:=Aw (S:=at1 w.heap.size) (ch_B5) (by first | (unfold at1;simp only;omega) | (simp only;omega));clear ch_B5;simp only [wpBlocksX,pickOps,PK];have hch:Chg (at1 w.heap.size) wa wa.drew:=Ar (Ab wa).drew;replace B2:=Aa ((Ab wa).drew) B2;replace B3:=Aa ((Ab wa).drew) B3;replace B4:=Aa ((Ab wa).drew) B4;replace B5:=Aa ((Ab wa).drew) B5;replace RA:=Aj RA ((Ab wa).drew);replace u_RA:=Ad u_RA ((Ab wa).drew).size;replace RL:=Aj RL ((Ab wa).drew);replace u_RL:=Ad u_RL ((Ab wa).drew).size;replace RP:=Aj RP ((Ab wa).drew);replace u_RP:=Ad u_RP ((Ab wa).drew).size;replace s:=s.ext ((Ab wa).drew)
  obtain⟨wt,hnw⟩:∃ wn,wn=wa.drew:=⟨_,rfl⟩
  rw [← hnw] at B2 B3 B4 B5 RA RL RP u_RA u_RL u_RP s hch ⊢
  clear hnw
  repeat (first | go_big_quiet_step (fail) | quiet_step (fail))
  refine wpQuiet_nil ?_;obtain⟨wpa,hwa,hba,hca⟩:=two_set B2 (.slice o1 t.ases.length c1) (.slice o2 t.links.length c2);have HWa:=Ac hwa;clear hwa;have ff0:=fr2 B2;have cb:=blk2 B2
  go_wp2_with fail
  rw [← HWa.out];clear HWa cb ff0;replace hch:=hch.trans (hca.mono (fun b h=>h));refine⟨⟨⟨_,hch⟩,rfl⟩,?_⟩;replace RA:=Af RA hca (by omega);replace u_RA:=Ad u_RA hca.size;replace RL:=Af RL hca (by omega);replace u_RL:=Ad u_RL hca.size;replace RP:=Af RP hca (by omega);replace u_RP:=Ad u_RP hca.size;replace B3:=hca.blkS B3 (by unfold at1;omega);replace B4:=hca.blkS B4 (by unfold at1;omega);replace B5:=hca.blkS B5 (by unfold at1;omega);replace B2:=hba;clear hba;replace s:=s.put hca (fun i hi=>by have h1:i=w.heap.size:=hi;omega)
  try clear hca
  repeat (first | go_big_quiet_step (fail) | quiet_step (fail))
  refine wpQuiet_nil ?_;obtain⟨wpb,hwb,hbb,hcb⟩:=set1 B3 (.slice op_ p.parts.length cp_);have HWb:=Ac hwb;clear hwb;have ff0:=fr_of B3 0;have cb:=blk1 B3
  go_wp2_with fail
  rw [← HWb.out];clear HWb cb ff0;replace RA:=Af RA hcb (by omega);replace u_RA:=Ad u_RA hcb.size;replace RL:=Af RL hcb (by omega);replace u_RL:=Ad u_RL hcb.size;replace RP:=Af RP hcb (by omega);replace u_RP:=Ad u_RP hcb.size;replace B2:=hcb.blkS B2 (by unfold at1;omega);replace B4:=hcb.blkS B4 (by unfold at1;omega);replace B5:=hcb.blkS B5 (by unfold at1;omega);replace B3:=hbb;clear hbb;replace s:=s.put hcb (fun i hi=>by have h1:i=(w.heap.size+1):=hi;omega)
  try clear hcb
  refine NoPanic.normal ?_;clear hch q0 q2;have cr_B2:=blk2 B2;have cr_B3:=blk1 B3;have cr_B4:=blk2 B4;have cr_B5:=blk1 B5;have hszE:=s.x.size
  go_wp2_with fail
  refine bodyPost_ret (by simp [results,Tryz.results90,go_sem,cr_B2,cr_B3] <;> rfl) rfl ?_;exact⟨_,_,_,t,p,rfl,TK,by omega,hph,(Bg (Cd RA (by omega)) (Ae _)),(Bg (Cd RL (by omega)) (Ae _)),(Bg (Cd RP (by omega)) (Ae _)),s.c,s.x⟩
 have hp1:((p.parts.length:Int) == 0)=false:=by simp;exact List.ne_nil_of_length_pos hp0
 have cb_B2:=blk2 B2;have cb_B3:=blk1 B3;have cb_B4:=blk2 B4;have cb_B5:=blk1 B5
 go_wp2_with fail
 clear cb_B2 cb_B3 cb_B4 cb_B5;refine(s_l1Below g (p.parts.length:Int) _ _ _ s.c).mono ?_;rintro e w2 ⟨k,rfl,hk0,hk1,hcq,hzq⟩;replace B2:=hzq.blkS B2 (by unfold at1;omega);replace B3:=hzq.blkS B3 (by unfold at1;omega);replace B4:=hzq.blkS B4 (by unfold at1;omega);replace B5:=hzq.blkS B5 (by unfold at1;omega);replace RA:=Af RA hzq (.inl g_RA);replace u_RA:=Ad u_RA hzq.size;replace RL:=Af RL hzq (.inl g_RL);replace u_RL:=Ad u_RL hzq.size;replace RP:=Af RP hzq (.inl g_RP);replace u_RP:=Ad u_RP hzq.size;replace s:=s.draw hcq hzq;clear hzq hcq;have hk2:k<p.parts.length:=by omega
 obtain⟨kk,rfl⟩:=Int.eq_ofNat_of_zero_le hk0;have hkk:kk<p.parts.length:=by omega
 clear hk1 hp1;have cb_B2:=blk2 B2;have cb_B3:=blk1 B3;have cb_B4:=blk2 B4;have cb_B5:=blk1 B5
 go_wp2_with fail
 clear cb_B2 cb_B3 cb_B4 cb_B5;refine(s_l1Below g (12) _ _ _ s.c).mono ?_;rintro e w3 ⟨q,rfl,hq0,hq1,hcq,hzq⟩;replace B2:=hzq.blkS B2 (by unfold at1;omega);replace B3:=hzq.blkS B3 (by unfold at1;omega);replace B4:=hzq.blkS B4 (by unfold at1;omega);replace B5:=hzq.blkS B5 (by unfold at1;omega);replace RA:=Af RA hzq (.inl g_RA);replace u_RA:=Ad u_RA hzq.size;replace RL:=Af RL hzq (.inl g_RL);replace u_RL:=Ad u_RL hzq.size;replace RP:=Af RP hzq (.inl g_RP);replace u_RP:=Ad u_RP hzq.size;replace s:=s.draw hcq hzq;clear hzq hcq;obtain⟨gp,cp_,hve,_⟩:=nest_shape RP hp0
 cases hve
 obtain⟨hgp1,hgp2⟩:=part_block RP;have hpk:=hph p.parts[kk] (List.getElem_mem _);have cb_B2:=blk2 B2;have cb_B3:=blk1 B3;have cb_B4:=blk2 B4;have cb_B5:=blk1 B5
 go_upto_block 0 with fail
 clear cb_B2 cb_B3 cb_B4 cb_B5
 go_cut [] (fun  wx=>∃ (ln:List Part) (vq:Value) (hi:Nat),(ln.length≤4)∧(∀ x∈ln,x.hops.length≤5)∧wx.heap[w.heap.size]?=some (.cells #[.slice none 0 0,.slice none 0 0] 27 (0,0))∧wx.heap[(w.heap.size+1)]?=some (.cells #[.slice none 0 0] 30 (0,0))∧wx.heap[b4]?=some (.cells #[.slice o1 t.ases.length c1,.slice o2 t.links.length c2] 27 (0,0))∧wx.heap[(b4+1)]?=some (.cells #[vq] 30 (0,0))∧((Own.keep ASd.rep).own (rng ((w.alloc (.cells #[.slice none 0 0,.slice none 0 0] 27)).alloc (.cells #[.slice none 0 0] 30)).heap.size m) wx (.slice o1 t.ases.length c1) t.ases∧m≤wx.heap.size)∧((Own.keep Lnk.rep).own (rng ((w.alloc (.cells #[.slice none 0 0,.slice none 0 0] 27)).alloc (.cells #[.slice none 0 0] 30)).heap.size m) wx (.slice o2 t.links.length c2) t.links∧m≤wx.heap.size)∧((Own.keep Part.rep).own (rng m hi) wx vq ln∧hi≤wx.heap.size)∧Cur g cv cd wx∧Chg (at1 g) w wx)
 case first=>
  by_cases q0:q=0
  ·
   subst q0;have cb_B2:=blk2 B2;have cb_B3:=blk1 B3;have cb_B4:=blk2 B4;have cb_B5:=blk1 B5
   go_upto_region 7 with (fail)
   clear cb_B2 cb_B3 cb_B4 cb_B5;refine Bl (at1 g) [([0,1,2,3],4)] [5,6] [7] (by kernel_rfl) (by kernel_rfl) (by kernel_rfl) ?_;have ch_B5:=blk1 B5;have q0:=Aw (S:=at1 g) (ch_B5) (by first | (unfold at1;simp only;omega) | (simp only;omega));clear ch_B5;simp only [wpBlocksX,pickOps,PK];have hch:Chg (at1 g) w3 w3.drew:=Ar (Ab w3).drew;replace B2:=Aa ((Ab w3).drew) B2;replace B3:=Aa ((Ab w3).drew) B3;replace B4:=Aa ((Ab w3).drew) B4;replace B5:=Aa ((Ab w3).drew) B5;replace RA:=Aj RA ((Ab w3).drew);replace u_RA:=Ad u_RA ((Ab w3).drew).size;replace RL:=Aj RL ((Ab w3).drew);replace u_RL:=Ad u_RL ((Ab w3).drew).size;replace RP:=Aj RP ((Ab w3).drew);replace u_RP:=Ad u_RP ((Ab w3).drew).size;replace s:=s.ext ((Ab w3).drew)
   obtain⟨wd,hnw⟩:∃ wn,wn=w3.drew:=⟨_,rfl⟩
   rw [← hnw] at B2 B3 B4 B5 RA RL RP u_RA u_RL u_RP s hch ⊢
   clear hnw
   repeat (first | go_big_quiet_step (fail) | quiet_step (fail))
   refine wpQuiet_nil ?_
   go_wp2_with fail
   refine(s_l1Below g (6) _ _ _ s.c).mono ?_;rintro e w4 ⟨kd,rfl,hkd0,hkd1,hcq,hzq⟩;replace B2:=hzq.blkS B2 (by unfold at1;omega);replace B3:=hzq.blkS B3 (by unfold at1;omega);replace B4:=hzq.blkS B4 (by unfold at1;omega);replace B5:=hzq.blkS B5 (by unfold at1;omega);replace RA:=Af RA hzq (.inl g_RA);replace u_RA:=Ad u_RA hzq.size;replace RL:=Af RL hzq (.inl g_RL);replace u_RL:=Ad u_RL hzq.size;replace RP:=Af RP hzq (.inl g_RP);replace u_RP:=Ad u_RP hzq.size;replace s:=s.draw hcq hzq;replace hch:=hch.trans (hzq.mono (fun b h=>h));clear hzq hcq
   go_wp2_with fail
   refine⟨⟨⟨_,hch⟩,rfl⟩,?_⟩
   repeat (first | go_big_quiet_step (fail) | quiet_step (fail))
   refine wpQuiet_nil ?_;obtain⟨bq,offq,oh,ch,hbo,hcell,hrh⟩:=Bx (Bs RP) kk hkk
   cases hbo
   simp only [Nat.zero_add] at hcell;obtain⟨wS,hwS,RPn,hcS⟩:=part_put RP kk hkk 0 (by decide) (.int .i64 kd) { p.parts[kk] with kind:=kd } rfl (fun v=>by simp [Part.c])
   try simp only [Nat.add_zero] at hwS
   have HWS:=Ac hwS;clear hwS;have fS:=nest_free RP (kk * 4+0)
   try simp only [Nat.add_zero] at fS
   go_wp2_with fail
   rw [← HWS.out];clear HWS fS hcell hrh RP;have RP:=Be RPn;clear RPn;replace RA:=Af RA hcS (by omega);replace u_RA:=Ad u_RA hcS.size;replace RL:=Af RL hcS (by omega);replace u_RL:=Ad u_RL hcS.size;replace B2:=hcS.blkS B2 (by unfold at1;omega);replace B3:=hcS.blkS B3 (by unfold at1;omega);replace B4:=hcS.blkS B4 (by unfold at1;omega);replace B5:=hcS.blkS B5 (by unfold at1;omega);replace u_RP:=Ad u_RP hcS.size;replace s:=s.put hcS (fun i hi=>by have h1:i=gp:=hi;omega);clear hcS;refine NoPanic.normal ?_;clear hch q0
   go_wp2_with fail
   go_meet
   exact⟨p.parts.set kk { p.parts[kk] with kind:=kd },_,_,by simp;omega,fun x hx=>by rcases List.mem_or_eq_of_mem_set hx with h | h;exact hph x h;rw [h];exact hpk,B2,B3,B4,B5,⟨RA,u_RA⟩,⟨RL,u_RL⟩,⟨RP,u_RP⟩,s.c,s.x⟩
  have q0f:(q == 0)=false:=by rw [beq_eq_false_iff_ne];exact q0
  by_cases q1:q=1
  ·
   subst q1;have cb_B2:=blk2 B2;have cb_B3:=blk1 B3;have cb_B4:=blk2 B4;have cb_B5:=blk1 B5
   go_upto_region 9 with (fail)
   clear cb_B2 cb_B3 cb_B4 cb_B5;refine Bl (at1 g) [([0,1,2,3],4)] [5,6] [7] (by kernel_rfl) (by kernel_rfl) (by kernel_rfl) ?_;have ch_B5:=blk1 B5;have q0:=Aw (S:=at1 g) (ch_B5) (by first | (unfold at1;simp only;omega) | (simp only;omega));clear ch_B5;simp only [wpBlocksX,pickOps,PK];have hch:Chg (at1 g) w3 w3.drew:=Ar (Ab w3).drew;replace B2:=Aa ((Ab w3).drew) B2;replace B3:=Aa ((Ab w3).drew) B3;replace B4:=Aa ((Ab w3).drew) B4;replace B5:=Aa ((Ab w3).drew) B5;replace RA:=Aj RA ((Ab w3).drew);replace u_RA:=Ad u_RA ((Ab w3).drew).size;replace RL:=Aj RL ((Ab w3).drew);replace u_RL:=Ad u_RL ((Ab w3).drew).size;replace RP:=Aj RP ((Ab w3).drew);replace u_RP:=Ad u_RP ((Ab w3).drew).size;replace s:=s.ext ((Ab w3).drew)
   obtain⟨wd,hnw⟩:∃ wn,wn=w3.drew:=⟨_,rfl⟩
   rw [← hnw] at B2 B3 B4 B5 RA RL RP u_RA u_RL u_RP s hch ⊢
   clear hnw
   repeat (first | go_big_quiet_step (fail) | quiet_step (fail))
   refine wpQuiet_nil ?_
   go_wp2_with fail
   refine(s_l3Word g _ _ _ s.c).mono ?_;rintro e w4 ⟨be,rfl,hbe0,hbe1,hcq,hzq⟩;replace B2:=hzq.blkS B2 (by unfold at1;omega);replace B3:=hzq.blkS B3 (by unfold at1;omega);replace B4:=hzq.blkS B4 (by unfold at1;omega);replace B5:=hzq.blkS B5 (by unfold at1;omega);replace RA:=Af RA hzq (.inl g_RA);replace u_RA:=Ad u_RA hzq.size;replace RL:=Af RL hzq (.inl g_RL);replace u_RL:=Ad u_RL hzq.size;replace RP:=Af RP hzq (.inl g_RP);replace u_RP:=Ad u_RP hzq.size;replace s:=s.draw hcq hzq;replace hch:=hch.trans (hzq.mono (fun b h=>h));clear hzq hcq
   go_wp2_with fail
   refine⟨⟨⟨_,hch⟩,rfl⟩,?_⟩
   repeat (first | go_big_quiet_step (fail) | quiet_step (fail))
   refine wpQuiet_nil ?_;obtain⟨bq,offq,oh,ch,hbo,hcell,hrh⟩:=Bx (Bs RP) kk hkk
   cases hbo
   simp only [Nat.zero_add] at hcell;obtain⟨wS,hwS,RPn,hcS⟩:=part_put RP kk hkk 2 (by decide) (.int .i64 be) { p.parts[kk] with beta:=be } rfl (fun v=>by simp [Part.c])
   try simp only [Nat.add_zero] at hwS
   have HWS:=Ac hwS;clear hwS;have fS:=nest_free RP (kk * 4+2)
   try simp only [Nat.add_zero] at fS
   go_wp2_with fail
   rw [← HWS.out];clear HWS fS hcell hrh RP;have RP:=Be RPn;clear RPn;replace RA:=Af RA hcS (by omega);replace u_RA:=Ad u_RA hcS.size;replace RL:=Af RL hcS (by omega);replace u_RL:=Ad u_RL hcS.size;replace B2:=hcS.blkS B2 (by unfold at1;omega);replace B3:=hcS.blkS B3 (by unfold at1;omega);replace B4:=hcS.blkS B4 (by unfold at1;omega);replace B5:=hcS.blkS B5 (by unfold at1;omega);replace u_RP:=Ad u_RP hcS.size;replace s:=s.put hcS (fun i hi=>by have h1:i=gp:=hi;omega);clear hcS;refine NoPanic.normal ?_;clear hch q0
   go_wp2_with fail
   go_meet
   exact⟨p.parts.set kk { p.parts[kk] with beta:=be },_,_,by simp;omega,fun x hx=>by rcases List.mem_or_eq_of_mem_set hx with h | h;exact hph x h;rw [h];exact hpk,B2,B3,B4,B5,⟨RA,u_RA⟩,⟨RL,u_RL⟩,⟨RP,u_RP⟩,s.c,s.x⟩
  have q1f:(q == 1)=false:=by rw [beq_eq_false_iff_ne];exact q1
  by_cases q2:q=2
  ·
   subst q2;obtain⟨bq,offq,oh,ch,hbo,hcell,hrh⟩:=Bx (Bs RP) kk hkk
   cases hbo
   simp only [Nat.zero_add] at hcell;have cb_B2:=blk2 B2;have cb_B3:=blk1 B3;have cb_B4:=blk2 B4;have cb_B5:=blk1 B5
   go_upto_region 11 with (fail)
   clear cb_B2 cb_B3 cb_B4 cb_B5;refine Bl (at1 g) [([0,1,2,3,4,5,6],7),([],8)] [] [9,10,11] (by kernel_rfl) (by kernel_rfl) (by kernel_rfl) ?_;have ch_B5:=blk1 B5;have q0:=Aw (S:=at1 g) (ch_B5) (by unfold at1;simp only;omega);clear ch_B5;have q1:=ChgSW.c4 (S:=at1 g) hcell (by first | omega | (unfold at1;omega) | (simp only;omega));simp only [wpBlocksX,pickOps,PK];have hch:Chg (at1 g) w3 w3.drew:=Ar (Ab w3).drew;replace hrh:=hrh.ext ((Ab w3).drew);replace B2:=Aa ((Ab w3).drew) B2;replace B3:=Aa ((Ab w3).drew) B3;replace B4:=Aa ((Ab w3).drew) B4;replace B5:=Aa ((Ab w3).drew) B5;replace RA:=Aj RA ((Ab w3).drew);replace u_RA:=Ad u_RA ((Ab w3).drew).size;replace RL:=Aj RL ((Ab w3).drew);replace u_RL:=Ad u_RL ((Ab w3).drew).size;replace RP:=Aj RP ((Ab w3).drew);replace u_RP:=Ad u_RP ((Ab w3).drew).size;replace s:=s.ext ((Ab w3).drew)
   obtain⟨wd,hnw⟩:∃ wn,wn=w3.drew:=⟨_,rfl⟩
   rw [← hnw] at B2 B3 B4 B5 RA RL RP u_RA u_RL u_RP s hrh hch ⊢
   clear hnw hcell
   repeat (first | go_big_quiet_step (fail) | quiet_step (fail))
   refine wpQuiet_nil ?_;have OW0:=RP;have hwdz:m≤wd.heap.size:=by omega
   have hb5d:b4+1<wd.heap.size:=blk_lt B5
   go_wp2_with fail
   refine(s_l21Copy p.parts[kk] _ _ hrh (by omega)).mono ?_;rintro e w4 ⟨uA,rfl,oA,hzq⟩;replace B2:=Aa hzq B2;replace B3:=Aa hzq B3;replace B4:=Aa hzq B4;replace B5:=Aa hzq B5;replace RA:=Aj RA hzq;replace u_RA:=Ad u_RA hzq.size;replace RL:=Aj RL hzq;replace u_RL:=Ad u_RL hzq.size;replace RP:=Aj RP hzq;replace u_RP:=Ad u_RP hzq.size;replace s:=s.ext hzq;replace hch:=hch.trans ((Ar hzq));have hzA:=hzq;obtain⟨o_p,c_p,rfl,_⟩:=(Bb (hf:=Ao) oA).shape;clear hzq
   go_wp2_with fail
   refine⟨⟨⟨_,hch⟩,rfl⟩,?_⟩
   repeat (first | go_big_quiet_step (fail) | quiet_step (fail))
   refine wpQuiet_nil ?_;have hsA:=hzA.size
   go_wp2_with fail
   refine⟨⟨⟨_,hch.trans (Ar ((Ab _).alloc _))⟩,rfl⟩,?_⟩
   repeat (first | go_big_quiet_step (fail) | quiet_step (fail))
   refine wpQuiet_nil ?_;have hxB:Ext w4 (w4.alloc (.cells #[.int .i64 p.parts[kk].kind,.int .i64 p.parts[kk].ts,.int .i64 p.parts[kk].beta,.slice o_p p.parts[kk].hops.length c_p] 99)):=(Ab _).alloc _;replace B2:=Aa hxB B2;replace B3:=Aa hxB B3;replace B4:=Aa hxB B4;replace B5:=Aa hxB B5;replace RA:=Aj RA hxB;replace u_RA:=Ad u_RA hxB.size;replace RL:=Aj RL hxB;replace u_RL:=Ad u_RL hxB.size;replace RP:=Aj RP hxB;replace u_RP:=Ad u_RP hxB.size;replace s:=s.ext hxB;refine appG (w0:=wd) (c:=Part.c) (hc:=Part.clen) (sub:=(·.hops)) (I:=Own.flat Hop.f 5 Ao 103) EP rfl _ _ rfl p.parts[kk] (.slice o_p p.parts[kk].hops.length c_p) (rng wd.heap.size w4.heap.size) (part_oneC _ _ _ _) rfl OW0 (hzA.t hxB) (Aj (O:=Own.flat Hop.f 5 Ao 103) (Cd (Own.ofF oA) (by omega)) hxB) (fun q hq=>⟨hq.1,by have h1:=hq.2;simp;omega⟩) rfl (by exact Au (Part.c p.parts[kk] (.slice o_p p.parts[kk].hops.length c_p)) (blk_new w4 _)) (by omega) (by unfold maxLen;omega) ?_;intro v' w' ho' hg' hvS;have hxg:Chg (at1 gp) (w4.alloc (.cells #[.int .i64 p.parts[kk].kind,.int .i64 p.parts[kk].ts,.int .i64 p.parts[kk].beta,.slice o_p p.parts[kk].hops.length c_p] 99)) w':=Bn hg' (fun k hk=>by cases hk;rfl);have hsg:=hg'.size;have u2:=u_RP
   obtain⟨ln,hln⟩:∃ ln,ln=p.parts ++ [p.parts[kk]]:=⟨_,rfl⟩
   rw [← hln] at ho';have hnl:ln.length=p.parts.length+1:=by rw [hln];simp
   have hnh:∀ x∈ln,x.hops.length≤5:=fun x hx=>by
    rw [hln] at hx
    rcases List.mem_append.1 hx with h | h
    ·
     exact hph x h
    rw [List.mem_singleton.1 h];exact hpk
   clear hln;have RPn:=Be ho'
   replace RPn := Own.mono (T := fun q => (m ≤ q ∧ q < w1.heap.size) ∨ wd.heap.size ≤ q) _ RPn (fun q hq => by
    rcases hq with h1 | h1
    ·
     exact .inl ⟨h1.1, h1.2⟩
    exact .inr h1.1)
   clear ho' oA hvS hg' OW0 hrh;replace RA:=Af RA hxg (by omega);replace u_RA:=Ad u_RA hxg.size;replace RL:=Af RL hxg (by omega);replace u_RL:=Ad u_RL hxg.size;replace B2:=hxg.blkS B2 (by unfold at1;omega);replace B3:=hxg.blkS B3 (by unfold at1;omega);replace B4:=hxg.blkS B4 (by unfold at1;omega);replace B5:=hxg.blkS B5 (by unfold at1;omega);replace s:=s.put hxg (fun i hi=>by have h1:i=gp:=hi;omega);clear hxg RP u_RP g_RP hxB hzA hsA hsg u2;have RP:=RPn;clear RPn;have HNL:=Ac hnl;clear hnl;obtain⟨o',c',rfl,_⟩:=Bf (Own.rd _ RP);obtain⟨wpn,hwn,hbn,hcn⟩:=set1 B5 (.slice o' ln.length c');have HWn:=Ac hwn;clear hwn;have ff0:=fr_of B5 0;have cb:=blk1 B5
   go_wp2_with fail
   rw [← HWn.out];clear HWn cb ff0;replace RA:=Af RA hcn (by omega);replace u_RA:=Ad u_RA hcn.size;replace RL:=Af RL hcn (by omega);replace u_RL:=Ad u_RL hcn.size;replace RP:=Own.kept _ RP hcn (fun b hb e=>by have e1:b=(b4+1):=e;rcases hb with h | h <;> omega);replace B2:=hcn.blkS B2 (by unfold at1;omega);replace B3:=hcn.blkS B3 (by unfold at1;omega);replace B4:=hcn.blkS B4 (by unfold at1;omega);replace B5:=hbn;clear hbn;replace s:=s.put hcn (fun i hi=>by have h1:i=(b4+1):=hi;omega)
   try clear hcn
   refine NoPanic.normal ?_;clear hch q0 q1;replace RP:=Own.mono (T:=rng m wpn.heap.size) _ ((Own.keep Part.rep).inb RP) (fun b hb=>⟨by rcases hb.1 with h | h <;> omega,hb.2⟩);have u_RP:=Ae wpn.heap.size
   go_wp2_with fail
   go_meet
   exact⟨ln,_,_,by have h1:=HNL.out;omega,hnh,B2,B3,B4,B5,⟨RA,u_RA⟩,⟨RL,u_RL⟩,⟨RP,u_RP⟩,s.c,s.x⟩
  have q2f:(q == 2)=false:=by rw [beq_eq_false_iff_ne];exact q2
  by_cases q3:q=3
  ·
   subst q3;have hcap:=(Bs RP).capLe;have hdn:(p.parts.drop 1).length=p.parts.length - 1:=List.length_drop
   obtain⟨ln,hln⟩:∃ ln,ln=p.parts.drop 1:=⟨_,rfl⟩
   have hnl:ln.length=p.parts.length - 1:=by rw [hln];exact hdn
   have hnh:∀ x∈ln,x.hops.length≤5:=fun x hx=>hph x (List.mem_of_mem_drop (hln ▸ hx))
   have HNL:=Ac hnl;clear hnl hdn;have hcc:cp_=1∨1<cp_:=by omega
   rcases hcc with hcc | hcc
   ·
    subst hcc;have RPn:(Own.keep Part.rep).own (rng m w1.heap.size) w3 (.slice (some ⟨gp,0,none⟩) 0 0) ln:=fun w5 c5=>by rw [hln];exact RdS.sufE (Be RP w5 c5) (by omega)
    have hl1:p.parts.length=1:=by omega
    clear RP;have RP:=RPn;clear RPn;have HLN:=Ac hln;clear hln;obtain⟨wpn,hwn,hbn,hcn⟩:=set1 B5 (.slice (some ⟨gp,0,none⟩) 0 0);have HWn:=Ac hwn;clear hwn;have ff0:=fr_of B5 0;have cb_B2:=blk2 B2;have cb_B3:=blk1 B3;have cb_B4:=blk2 B4;have cb_B5:=blk1 B5
    go_wp2_with fail
    clear cb_B2 cb_B3 cb_B4 cb_B5;rw [← HWn.out];clear HWn ff0;replace RA:=Af RA hcn (by omega);replace u_RA:=Ad u_RA hcn.size;replace RL:=Af RL hcn (by omega);replace u_RL:=Ad u_RL hcn.size;replace RP:=Af RP hcn (by omega);replace u_RP:=Ad u_RP hcn.size;replace B2:=hcn.blkS B2 (by unfold at1;omega);replace B3:=hcn.blkS B3 (by unfold at1;omega);replace B4:=hcn.blkS B4 (by unfold at1;omega);replace B5:=hbn;clear hbn;replace s:=s.put hcn (fun i hi=>by have h1:i=(b4+1):=hi;omega)
    try clear hcn
    go_wp2_with fail
    go_meet
    exact⟨ln,_,_,by have h1:=HNL.out;omega,hnh,B2,B3,B4,B5,⟨RA,u_RA⟩,⟨RL,u_RL⟩,⟨RP,u_RP⟩,s.c,s.x⟩
   have RPn:(Own.keep Part.rep).own (rng m w1.heap.size) w3 (.slice (some ⟨gp,4,none⟩) (p.parts.length - 1) (cp_ - 1)) ln:=fun w5 c5=>by
    rw [hln];have h1:RdS Part.rep w5 (.slice (some ⟨gp,0+1 * 4,none⟩) (p.parts.length - 1) (cp_ - 1)) (p.parts.drop 1):=RdS.suf (Be RP w5 c5) 1 (by omega);exact h1
   have hcn:¬ cp_=1:=by omega
   have hcl:1≤cp_:=by omega
   clear RP;have RP:=RPn;clear RPn;have HLN:=Ac hln;clear hln;obtain⟨wpn,hwn,hbn,hcn⟩:=set1 B5 (.slice (some ⟨gp,4,none⟩) (p.parts.length - 1) (cp_ - 1));have HWn:=Ac hwn;clear hwn;have ff0:=fr_of B5 0;have cb_B2:=blk2 B2;have cb_B3:=blk1 B3;have cb_B4:=blk2 B4;have cb_B5:=blk1 B5
   go_wp2_with fail
   clear cb_B2 cb_B3 cb_B4 cb_B5;rw [← HWn.out];clear HWn ff0;replace RA:=Af RA hcn (by omega);replace u_RA:=Ad u_RA hcn.size;replace RL:=Af RL hcn (by omega);replace u_RL:=Ad u_RL hcn.size;replace RP:=Af RP hcn (by omega);replace u_RP:=Ad u_RP hcn.size;replace B2:=hcn.blkS B2 (by unfold at1;omega);replace B3:=hcn.blkS B3 (by unfold at1;omega);replace B4:=hcn.blkS B4 (by unfold at1;omega);replace B5:=hbn;clear hbn;replace s:=s.put hcn (fun i hi=>by have h1:i=(b4+1):=hi;omega)
   try clear hcn
   go_wp2_with fail
   go_meet
   exact⟨ln,_,_,by have h1:=HNL.out;omega,hnh,B2,B3,B4,B5,⟨RA,u_RA⟩,⟨RL,u_RL⟩,⟨RP,u_RP⟩,s.c,s.x⟩
  have q3f:(q == 3)=false:=by rw [beq_eq_false_iff_ne];exact q3
  by_cases q4:q=4
  ·
   subst q4;have hh0:p.parts[kk].hops.length=0∨0<p.parts[kk].hops.length:=by omega
   rcases hh0 with hh0 | hh0
   ·
    obtain⟨bq,offq,oh,ch,hbo,hcell,hrh⟩:=Bx (Bs RP) kk hkk
    cases hbo
    simp only [Nat.zero_add] at hcell;have hh1:decide ((0:Int)<(p.parts[kk].hops.length:Int))=false:=decide_eq_false (by omega);replace RP:=Be RP;have cb_B2:=blk2 B2;have cb_B3:=blk1 B3;have cb_B4:=blk2 B4;have cb_B5:=blk1 B5
    go_wp2_with fail
    clear cb_B2 cb_B3 cb_B4 cb_B5
    go_meet
    exact⟨p.parts,_,_,by omega,hph,B2,B3,B4,B5,⟨RA,u_RA⟩,⟨RL,u_RL⟩,⟨RP,u_RP⟩,s.c,s.x⟩
   have hh1:decide ((0:Int)<(p.parts[kk].hops.length:Int))=true:=decide_eq_true (by omega);obtain⟨gh,ch,hcc,hoh,hg1,hg2,hg3⟩:=part_hops RP kk hkk hh0;have hcell:=hcc 3 _ rfl;clear hcc;have cb_B2:=blk2 B2;have cb_B3:=blk1 B3;have cb_B4:=blk2 B4;have cb_B5:=blk1 B5
   go_wp2_with fail
   clear cb_B2 cb_B3 cb_B4 cb_B5;clear hh1;refine(s_l1Below g (p.parts[kk].hops.length:Int) _ _ _ s.c).mono ?_;rintro e w4 ⟨i,rfl,hi0,hi1,hcq,hzq⟩;replace B2:=hzq.blkS B2 (by unfold at1;omega);replace B3:=hzq.blkS B3 (by unfold at1;omega);replace B4:=hzq.blkS B4 (by unfold at1;omega);replace B5:=hzq.blkS B5 (by unfold at1;omega);replace RA:=Af RA hzq (.inl g_RA);replace u_RA:=Ad u_RA hzq.size;replace RL:=Af RL hzq (.inl g_RL);replace u_RL:=Ad u_RL hzq.size;replace RP:=Af RP hzq (.inl g_RP);replace u_RP:=Ad u_RP hzq.size;replace s:=s.draw hcq hzq;clear hzq hcq;clear hcell hoh hg1 hg2 hg3;have hi2:i<p.parts[kk].hops.length:=by omega
   obtain⟨ii,rfl⟩:=Int.eq_ofNat_of_zero_le hi0;have hii:ii<p.parts[kk].hops.length:=by omega
   clear hi1;obtain⟨gh1,ch1,hcc,hoh,hg1,hg2,hg3⟩:=part_hops RP kk hkk hh0;have hcell:=hcc 3 _ rfl;clear hcc;have cb_B2:=blk2 B2;have cb_B3:=blk1 B3;have cb_B4:=blk2 B4;have cb_B5:=blk1 B5
   go_upto_region 17 with (fail)
   clear cb_B2 cb_B3 cb_B4 cb_B5;refine Bl (at1 g) [([0,1,2,3,4,5,6,7],8)] [9,10] [11] (by kernel_rfl) (by kernel_rfl) (by kernel_rfl) ?_;have ch_B5:=blk1 B5;have q0:=Aw (S:=at1 g) (ch_B5) (by unfold at1;simp only;omega);clear ch_B5;have q1:=Aw (S:=at1 g) (hcell) (by unfold at1;simp only;omega);simp only [wpBlocksX,pickOps,PK];have hch:Chg (at1 g) w4 w4.drew:=Ar (Ab w4).drew;replace hcell:=By ((Ab w4).drew) hcell;replace B2:=Aa ((Ab w4).drew) B2;replace B3:=Aa ((Ab w4).drew) B3;replace B4:=Aa ((Ab w4).drew) B4;replace B5:=Aa ((Ab w4).drew) B5;replace RA:=Aj RA ((Ab w4).drew);replace u_RA:=Ad u_RA ((Ab w4).drew).size;replace RL:=Aj RL ((Ab w4).drew);replace u_RL:=Ad u_RL ((Ab w4).drew).size;replace RP:=Aj RP ((Ab w4).drew);replace u_RP:=Ad u_RP ((Ab w4).drew).size;replace s:=s.ext ((Ab w4).drew)
   obtain⟨wd,hnw⟩:∃ wn,wn=w4.drew:=⟨_,rfl⟩
   rw [← hnw] at B2 B3 B4 B5 RA RL RP u_RA u_RL u_RP s hcell hch ⊢
   clear hnw hoh
   repeat (first | go_big_quiet_step (fail) | quiet_step (fail))
   refine wpQuiet_nil ?_
   go_wp2_with fail
   refine(s_l3Word g _ _ _ s.c).mono ?_;rintro e w5 ⟨mc,rfl,hm0,hm9,hcq,hzq⟩;replace B2:=hzq.blkS B2 (by unfold at1;omega);replace B3:=hzq.blkS B3 (by unfold at1;omega);replace B4:=hzq.blkS B4 (by unfold at1;omega);replace B5:=hzq.blkS B5 (by unfold at1;omega);replace RA:=Af RA hzq (.inl g_RA);replace u_RA:=Ad u_RA hzq.size;replace RL:=Af RL hzq (.inl g_RL);replace u_RL:=Ad u_RL hzq.size;replace RP:=Af RP hzq (.inl g_RP);replace u_RP:=Ad u_RP hzq.size;replace s:=s.draw hcq hzq;replace hch:=hch.trans (hzq.mono (fun b h=>h));replace hcell:=Chg.cell hzq hcell (by unfold at1;simp only;omega);clear hzq hcq
   go_wp2_with fail
   refine⟨⟨⟨_,hch⟩,rfl⟩,?_⟩
   repeat (first | go_big_quiet_step (fail) | quiet_step (fail))
   refine wpQuiet_nil ?_;obtain⟨wS,hwS,RPn,hcS⟩:=part_hop_set RP kk hkk ii hii hcell mc;have HWS:=Ac hwS;clear hwS;obtain⟨gh2,ch2,hcc2,hoh2,_,_,_⟩:=part_hops RP kk hkk hh0
   have e2:=(hcell.symm.trans (hcc2 3 _ rfl))
   cases e2
   obtain⟨bq,offq,hbo,hcH⟩:=Ca (Bb (hf:=Ao) hoh2) ii hii
   cases hbo
   simp only [Nat.zero_add] at hcH;have fS:=OwnF.free hoh2 (ii * 5+4)
   go_wp2_with fail
   rw [← HWS.out];clear HWS fS hcH hcell hoh2 hcc2 RP;have RP:=RPn;clear RPn;replace RA:=Af RA hcS (by omega);replace u_RA:=Ad u_RA hcS.size;replace RL:=Af RL hcS (by omega);replace u_RL:=Ad u_RL hcS.size;replace B2:=hcS.blkS B2 (by unfold at1;omega);replace B3:=hcS.blkS B3 (by unfold at1;omega);replace B4:=hcS.blkS B4 (by unfold at1;omega);replace B5:=hcS.blkS B5 (by unfold at1;omega);replace u_RP:=Ad u_RP hcS.size;replace s:=s.put hcS (fun i hi=>by have h1:i=gh1:=hi;omega);clear hcS;refine NoPanic.normal ?_;clear hch q0 q1;replace RP:=Be RP
   go_wp2_with fail
   go_meet
   exact⟨p.parts.set kk { p.parts[kk] with hops:=p.parts[kk].hops.set ii { p.parts[kk].hops[ii] with mac:=mc } },_,_,by simp;omega,fun x hx=>by rcases List.mem_or_eq_of_mem_set hx with h | h;exact hph x h;rw [h];simpa using hpk,B2,B3,B4,B5,⟨RA,u_RA⟩,⟨RL,u_RL⟩,⟨RP,u_RP⟩,s.c,s.x⟩
  have q4f:(q == 4)=false:=by rw [beq_eq_false_iff_ne];exact q4
  replace RP:=Be RP
  go_wp2_with fail
  go_meet
  exact⟨p.parts,_,_,by omega,hph,B2,B3,B4,B5,⟨RA,u_RA⟩,⟨RL,u_RL⟩,⟨RP,u_RP⟩,s.c,s.x⟩
 case rest=>
  have hc0z:=s.c0;clear s B2 B3 B4 B5 RA RL RP u_RA u_RL u_RP;obtain⟨ln,vq,hi,hln4,hln5,B2,B3,B4,B5,⟨RA,u_RA⟩,⟨RL,u_RL⟩,⟨RP,u_RP⟩,hcC,hcX⟩:=hcut
  obtain⟨wz,hwz⟩:∃ wz:World,wz=wc:=⟨_,rfl⟩
  subst hwz
  have s:DSt g cv cd w wz:=⟨hcC,hcX,hc0z⟩
  clear hcC hcX hc0z;obtain⟨oq_,cq_,rfl,_⟩:=Bf (Own.rd _ RP)
  go_upto_region 18 with (fail)
  refine Bl (at1 w.heap.size) [([0,1],2)] [] [3] (by kernel_rfl) (by kernel_rfl) (by kernel_rfl) ?_;have ch_B4:=blk2 B4;have q0:=Cj (S:=at1 w.heap.size) ch_B4 (by first | omega | (unfold at1;omega) | (simp only;omega));clear ch_B4;have ch_B5:=blk1 B5;have q2:=Aw (S:=at1 w.heap.size) (ch_B5) (by first | (unfold at1;simp only;omega) | (simp only;omega));clear ch_B5;simp only [wpBlocksX,pickOps,PK];have hch:Chg (at1 w.heap.size) wz wz.drew:=Ar (Ab wz).drew;replace B2:=Aa ((Ab wz).drew) B2;replace B3:=Aa ((Ab wz).drew) B3;replace B4:=Aa ((Ab wz).drew) B4;replace B5:=Aa ((Ab wz).drew) B5;replace RA:=Aj RA ((Ab wz).drew);replace u_RA:=Ad u_RA ((Ab wz).drew).size;replace RL:=Aj RL ((Ab wz).drew);replace u_RL:=Ad u_RL ((Ab wz).drew).size;replace RP:=Aj RP ((Ab wz).drew);replace u_RP:=Ad u_RP ((Ab wz).drew).size;replace s:=s.ext ((Ab wz).drew)
  obtain⟨wt,hnw⟩:∃ wn,wn=wz.drew:=⟨_,rfl⟩
  rw [← hnw] at B2 B3 B4 B5 RA RL RP u_RA u_RL u_RP s hch ⊢
  clear hnw
  repeat (first | go_big_quiet_step (fail) | quiet_step (fail))
  refine wpQuiet_nil ?_;obtain⟨wpa,hwa,hba,hca⟩:=two_set B2 (.slice o1 t.ases.length c1) (.slice o2 t.links.length c2);have HWa:=Ac hwa;clear hwa;have ff0:=fr2 B2;have cb:=blk2 B2
  go_wp2_with fail
  rw [← HWa.out];clear HWa cb ff0;replace hch:=hch.trans (hca.mono (fun b h=>h));refine⟨⟨⟨_,hch⟩,rfl⟩,?_⟩;replace RA:=Af RA hca (by omega);replace u_RA:=Ad u_RA hca.size;replace RL:=Af RL hca (by omega);replace u_RL:=Ad u_RL hca.size;replace RP:=Af RP hca (by omega);replace u_RP:=Ad u_RP hca.size;replace B3:=hca.blkS B3 (by unfold at1;omega);replace B4:=hca.blkS B4 (by unfold at1;omega);replace B5:=hca.blkS B5 (by unfold at1;omega);replace B2:=hba;clear hba;replace s:=s.put hca (fun i hi=>by have h1:i=w.heap.size:=hi;omega)
  try clear hca
  repeat (first | go_big_quiet_step (fail) | quiet_step (fail))
  refine wpQuiet_nil ?_;obtain⟨wpb,hwb,hbb,hcb⟩:=set1 B3 (.slice oq_ ln.length cq_);have HWb:=Ac hwb;clear hwb;have ff0:=fr_of B3 0;have cb:=blk1 B3
  go_wp2_with fail
  rw [← HWb.out];clear HWb cb ff0;replace RA:=Af RA hcb (by omega);replace u_RA:=Ad u_RA hcb.size;replace RL:=Af RL hcb (by omega);replace u_RL:=Ad u_RL hcb.size;replace RP:=Af RP hcb (by omega);replace u_RP:=Ad u_RP hcb.size;replace B2:=hcb.blkS B2 (by unfold at1;omega);replace B4:=hcb.blkS B4 (by unfold at1;omega);replace B5:=hcb.blkS B5 (by unfold at1;omega);replace B3:=hbb;clear hbb;replace s:=s.put hcb (fun i hi=>by have h1:i=(w.heap.size+1):=hi;omega)
  try clear hcb
  refine NoPanic.normal ?_;clear hch q0 q2;have cr_B2:=blk2 B2;have cr_B3:=blk1 B3;have cr_B4:=blk2 B4;have cr_B5:=blk1 B5;have hszE:=s.x.size
  go_wp2_with fail
  refine bodyPost_ret (by simp [results,Tryz.results90,go_sem,cr_B2,cr_B3] <;> rfl) rfl ?_;exact⟨_,_,_,t,⟨ln⟩,rfl,TK,hln4,hln5,(Bg (Cd RA (by omega)) (Ae _)),(Bg (Cd RL (by omega)) (Ae _)),(Bg (Cd RP (by omega)) (Ae _)),s.c,s.x⟩
end
end Go.Proofs.YteodlcpeoaggbaaGreat
