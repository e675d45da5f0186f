/- What these laws need: FnOld, FnWalks: The draw of a topology and a path of it. -/
import Derived.Test.YteodlcpeoaggbaaGreatKV17
namespace Go.Proofs.YteodlcpeoaggbaaGreat
section
open Go.ChangeShapes Go.WideShapes Go.ChangeAt Go.RowKit Go.Deep
theorem keep_of {α:Type} {S:Nat→Prop} {r:Rep α} {w:World} {v:Value} {l:List α} {lo hi:Nat} (h:KS S r w v l) (hs:∀ b,¬ rng lo hi b→S b):(Own.keep r).own (rng lo hi) w v l:=fun w' c=>h w' (c.mono hs)
def paS (n b5 b6 b8:Nat):Nat→Prop:=fun b=>b<n+2∨b=b5∨b=b6∨b=b8
structure PaSt (S : Nat → Prop) (g : Nat) (cv : Value) (cd : List Int) (w : World) (b4 b5 b6 b7 b8 : Nat) (v1 v2 vu vd vc vp : Value) (t : Topo) (u d c : Seg) (wr : World) : Prop where
 cu:Cur g cv cd wr
 x:Chg (at1 g) w wr
 c0:Cur g cv cd w
 p2:wr.heap[w.heap.size]?=some (.cells #[.slice none 0 0,.slice none 0 0] 27 (0,0))
 p3:wr.heap[w.heap.size+1]?=some (.cells #[.slice none 0 0] 30 (0,0))
 p4:wr.heap[b4]?=some (.cells #[v1,v2] 27 (0,0))
 p5:wr.heap[b5]?=some (.cells #[.int .i64 u.ts,.int .i64 u.beta,vu] 116 (0,0))
 p6:wr.heap[b6]?=some (.cells #[.int .i64 d.ts,.int .i64 d.beta,vd] 116 (0,0))
 p7:wr.heap[b7]?=some (.cells #[.int .i64 c.ts,.int .i64 c.beta,vc] 116 (0,0))
 p8:wr.heap[b8]?=some (.cells #[vp] 30 (0,0))
 ka:KS S ASd.rep wr v1 t.ases
 kl:KS S Lnk.rep wr v2 t.links
 ku:KS S Hop.rep wr vu u.hops
 kd:KS S Hop.rep wr vd d.hops
 kc:KS S Hop.rep wr vc c.hops
 hS:∀ b,paS w.heap.size b5 b6 b8 b→S b
 o4:w.heap.size+1<b4
 o5:b4<b5
 o6:b5<b6
 o7:b6<b7
 o8:b7<b8
namespace PaSt
variable {S : Nat → Prop} {g : Nat} {cv : Value} {cd : List Int} {w : World} {b4 b5 b6 b7 b8 : Nat} {v1 v2 vu vd vc vp : Value} {t : Topo} {u d c : Seg} {wr : World}
theorem sg (s:PaSt S g cv cd w b4 b5 b6 b7 b8 v1 v2 vu vd vc vp t u d c wr):S g:=s.hS g (.inl (by have h1:=s.c0.lt;omega))
theorem draw (s:PaSt S g cv cd w b4 b5 b6 b7 b8 v1 v2 vu vd vc vp t u d c wr) {w':World} (hc:Cur g cv cd w') (hx:Chg (at1 g) wr w'):PaSt S g cv cd w b4 b5 b6 b7 b8 v1 v2 vu vd vc vp t u d c w':=
 have e1:=s.c0.lt;have e4:=s.o4;have e5:=s.o5;have e6:=s.o6;have e7:=s.o7;have e8:=s.o8;have hg:∀ b,at1 g b→S b:=fun b hb=>by have h1:b=g:=hb;rw [h1];exact s.sg
 ⟨hc, s.x.trans hx, s.c0, hx.blkS s.p2 (by unfold at1; omega), hx.blkS s.p3 (by unfold at1; omega), hx.blkS s.p4 (by unfold at1; omega), hx.blkS s.p5 (by unfold at1; omega), hx.blkS s.p6 (by unfold at1; omega), hx.blkS s.p7 (by unfold at1; omega), hx.blkS s.p8 (by unfold at1; omega),
  s.ka.step hx hg, s.kl.step hx hg, s.ku.step hx hg, s.kd.step hx hg, s.kc.step hx hg, s.hS, e4, e5, e6, e7, e8⟩
theorem ext (s:PaSt S g cv cd w b4 b5 b6 b7 b8 v1 v2 vu vd vc vp t u d c wr) {w':World} (hx:Ext wr w'):PaSt S g cv cd w b4 b5 b6 b7 b8 v1 v2 vu vd vc vp t u d c w':=s.draw (s.cu.ext hx) (Ar hx)
theorem up (s:PaSt S g cv cd w b4 b5 b6 b7 b8 v1 v2 vu vd vc vp t u d c wr) {w':World} {T:Nat→Prop} (hx:Chg T wr w') (hT:∀ b,T b→w.heap.size≤b):Cur g cv cd w'∧Chg (at1 g) w w':=by
 have h1:=Chg.up s.x hx (fun i hi=>.inr (hT i hi));exact⟨Cur.kept s.c0 s.cu hx (fun h=>by have h2:=hT _ h;have h3:=s.c0.lt;omega) h1,h1⟩
theorem set5 (s:PaSt S g cv cd w b4 b5 b6 b7 b8 v1 v2 vu vd vc vp t u d c wr) {w':World} {u':Seg} {vu':Value} (hx:Chg (at1 b5) wr w') (h5:w'.heap[b5]?=some (.cells #[.int .i64 u'.ts,.int .i64 u'.beta,vu'] 116 (0,0))) (hk:KS S Hop.rep wr vu' u'.hops):PaSt S g cv cd w b4 b5 b6 b7 b8 v1 v2 vu' vd vc vp t u' d c w':=by
 have e4:=s.o4;have e5:=s.o5;have e6:=s.o6;have e7:=s.o7;have e8:=s.o8;have hT:∀ b,at1 b5 b→S b:=fun b hb=>s.hS b (.inr (.inl hb))
 obtain⟨q1,q2⟩:=s.up hx (fun b hb=>by have h1:b=b5:=hb;omega)
 exact ⟨q1, q2, s.c0, hx.blkS s.p2 (by unfold at1; omega), hx.blkS s.p3 (by unfold at1; omega), hx.blkS s.p4 (by unfold at1; omega), h5, hx.blkS s.p6 (by unfold at1; omega), hx.blkS s.p7 (by unfold at1; omega), hx.blkS s.p8 (by unfold at1; omega),
  s.ka.step hx hT, s.kl.step hx hT, hk.step hx hT, s.kd.step hx hT, s.kc.step hx hT, s.hS, e4, e5, e6, e7, e8⟩
theorem set6 (s:PaSt S g cv cd w b4 b5 b6 b7 b8 v1 v2 vu vd vc vp t u d c wr) {w':World} {d':Seg} {vd':Value} (hx:Chg (at1 b6) wr w') (h6:w'.heap[b6]?=some (.cells #[.int .i64 d'.ts,.int .i64 d'.beta,vd'] 116 (0,0))) (hk:KS S Hop.rep wr vd' d'.hops):PaSt S g cv cd w b4 b5 b6 b7 b8 v1 v2 vu vd' vc vp t u d' c w':=by
 have e4:=s.o4;have e5:=s.o5;have e6:=s.o6;have e7:=s.o7;have e8:=s.o8;have hT:∀ b,at1 b6 b→S b:=fun b hb=>s.hS b (.inr (.inr (.inl hb)))
 obtain⟨q1,q2⟩:=s.up hx (fun b hb=>by have h1:b=b6:=hb;omega)
 exact ⟨q1, q2, s.c0, hx.blkS s.p2 (by unfold at1; omega), hx.blkS s.p3 (by unfold at1; omega), hx.blkS s.p4 (by unfold at1; omega), hx.blkS s.p5 (by unfold at1; omega), h6, hx.blkS s.p7 (by unfold at1; omega), hx.blkS s.p8 (by unfold at1; omega),
  s.ka.step hx hT, s.kl.step hx hT, s.ku.step hx hT, hk.step hx hT, s.kc.step hx hT, s.hS, e4, e5, e6, e7, e8⟩
theorem open_ (s:PaSt S g cv cd w b4 b5 b6 b7 b8 v1 v2 vu vd vc vp t u d c wr):PaSt (fun b=>S b∨wr.heap.size≤b) g cv cd w b4 b5 b6 b7 b8 v1 v2 vu vd vc vp t u d c wr:=
 ⟨s.cu,s.x,s.c0,s.p2,s.p3,s.p4,s.p5,s.p6,s.p7,s.p8,s.ka.wide (fun _ h=>h),s.kl.wide (fun _ h=>h),s.ku.wide (fun _ h=>h),s.kd.wide (fun _ h=>h),s.kc.wide (fun _ h=>h),fun b hb=>.inl (s.hS b hb),s.o4,s.o5,s.o6,s.o7,s.o8⟩
theorem grow {M:Nat} (s:PaSt S g cv cd w b4 b5 b6 b7 b8 v1 v2 vu vd vc vp t u d c wr) (hM:b8<M) (hSM:∀ b,M≤b→S b) {w':World} {vp':Value} (hx:Chg (fun b=>b=b8∨M≤b) wr w') (h8:w'.heap[b8]?=some (.cells #[vp'] 30 (0,0))):PaSt S g cv cd w b4 b5 b6 b7 b8 v1 v2 vu vd vc vp' t u d c w':=by
 have e4:=s.o4;have e5:=s.o5;have e6:=s.o6;have e7:=s.o7;have e8:=s.o8
 have hT:∀ b,(b=b8∨M≤b)→S b:=fun b hb=>by
  rcases hb with hb | hb
  ·
   exact s.hS b (.inr (.inr (.inr hb)))
  exact hSM b hb
 obtain⟨q1,q2⟩:=s.up hx (fun b hb=>by omega)
 exact ⟨q1, q2, s.c0, hx.blkS s.p2 (by omega), hx.blkS s.p3 (by omega), hx.blkS s.p4 (by omega), hx.blkS s.p5 (by omega), hx.blkS s.p6 (by omega), hx.blkS s.p7 (by omega), h8,
  s.ka.step hx hT, s.kl.step hx hT, s.ku.step hx hT, s.kd.step hx hT, s.kc.step hx hT, s.hS, e4, e5, e6, e7, e8⟩
theorem fin {M:Nat} (s:PaSt S g cv cd w b4 b5 b6 b7 b8 v1 v2 vu vd vc vp t u d c wr) (hSM:∀ b,M≤b→S b) {vq:Value} {l:List Part} {hi:Nat} (ho:Part.own.own (rng M hi) wr vq l) (hM:w.heap.size+1<M) (hMw:M≤wr.heap.size) :
  ∃ wa wb,wa=(wr.setCell ⟨w.heap.size,0,none⟩ v1).setCell ⟨w.heap.size,1,none⟩ v2∧wb=wa.setCell ⟨w.heap.size+1,0,none⟩ vq∧wa.heap[w.heap.size+1]?=some (.cells #[.slice none 0 0] 30 (0,0))∧wb.heap[w.heap.size]?=some (.cells #[v1,v2] 27 (0,0))∧wb.heap[w.heap.size+1]?=some (.cells #[vq] 30 (0,0)) ∧
   Cur g cv cd wb∧Chg (at1 g) w wb∧(Own.keep ASd.rep).own (rng w.heap.size M) wb v1 t.ases∧(Own.keep Lnk.rep).own (rng w.heap.size M) wb v2 t.links∧Part.own.own (rng M hi) wb vq l∧Chg (at1 w.heap.size) wr wa∧M≤wb.heap.size:=by
 obtain⟨wa,ea,ha,ca⟩:=two_set s.p2 v1 v2;have h3:=ca.blkS s.p3 (by unfold at1;omega);obtain⟨wb,eb,hb,cb⟩:=one_set h3 0 vq;simp only [List.setIfInBounds_toArray,List.set_cons_zero] at hb;have hx:Chg (fun b=>b=w.heap.size∨b=w.heap.size+1) wr wb:=(ca.mono (fun b h=>.inl h)).trans (cb.mono (fun b h=>.inr h));have hT:∀ b,(b=w.heap.size∨b=w.heap.size+1)→S b:=fun b h=>s.hS b (.inl (by omega))
 obtain⟨q1,q2⟩:=s.up hx (fun b h=>by omega)
 have hk:∀ b,¬ rng w.heap.size M b→S b:=fun b h=>by
  by_cases h1:b<w.heap.size
  ·
   exact s.hS b (.inl (by omega))
  exact hSM b (by unfold rng at h;omega)
 exact⟨wa,wb,ea,eb,h3,cb.blkS ha (by unfold at1;omega),hb,q1,q2,keep_of (s.ka.step hx hT) hk,keep_of (s.kl.step hx hT) hk,Own.chgR ho hx (fun b h=>.inl (by omega)),ca,Ad hMw hx.size⟩
end PaSt
theorem elemPartD:Nonempty (Elem Tryz.prog 28 99 4 48):=Elem.mk' Tryz.underlying28 Tryz.infoPart rfl (by decide)
set_option maxRecDepth 100000 in
set_option maxHeartbeats 40000000 in
theorem s_l22Draw (g:Nat)  (cv:Value) (cd:List Int) (w:World) (hc:Cur g cv cd w) :
  Calls Tryz.prog 35 #[.pointer (some ⟨g,0,none⟩)] w fun e w'=>∃ (v1 v2 vp:Value) (t:Topo) (p:Pth) (m:Nat),e=.returned (.tuple #[.agg #[v1,v2],.agg #[vp]])∧TopoOk t∧PthDrawn t p∧w.heap.size≤m∧m≤w'.heap.size∧(Own.keep ASd.rep).own (rng w.heap.size m) w' v1 t.ases∧(Own.keep Lnk.rep).own (rng w.heap.size m) w' v2 t.links∧Part.own.own (rng m w'.heap.size) w' vp p.parts∧Cur g cv cd w'∧Chg (at1 g) w w':=by
 obtain⟨EP⟩:=elemPartD;have hgw:=hc.lt
 have s:DSt g cv cd w ((w.alloc (.cells #[.slice none 0 0,.slice none 0 0] 27)).alloc (.cells #[.slice none 0 0] 30)):=⟨hc.ext (ext2 w _ _),Ar (ext2 w _ _),hc⟩
 have B2:=(al2 w (.cells #[.slice none 0 0,.slice none 0 0] 27) (.cells #[.slice none 0 0] 30)).1;have B3:=(al2 w (.cells #[.slice none 0 0,.slice none 0 0] 27) (.cells #[.slice none 0 0] 30)).2
 go_enter Tryz.func35,Tryz.ntmps35
 go_wp2_with fail
 have hbs:=s.x.size;refine(s_l5Draw g _ _ _ s.c).mono ?_;rintro e w1 ⟨v1,v2,t,rfl,TK,RA,RL,hcq,hzq⟩;replace RA:=RA.mono hbs;replace RL:=RL.mono hbs;replace B2:=hzq.blkS B2 (by unfold at1;omega);replace B3:=hzq.blkS B3 (by unfold at1;omega);replace s:=s.draw hcq hzq;clear hcq hzq hbs;obtain⟨o1,c1,rfl,_⟩:=(Bb (hf:=ASd.flen) RA).shape;obtain⟨o2,c2,rfl,_⟩:=(Bb (hf:=Lnk.flen) RL).shape;have cb_B2:=blk2 B2;have cb_B3:=blk1 B3
 go_upto_region 2 with (fail)
 clear cb_B2 cb_B3;have hxa:Ext w1 (w1.alloc (.cells #[.slice o1 t.ases.length c1,.slice o2 t.links.length c2] 27)):=(Ab _).alloc _;have lt_w:w.heap.size≤w1.heap.size:=s.x.size;have lt_B2:w.heap.size<w1.heap.size:=blk_lt B2;have lt_B3:(w.heap.size+1)<w1.heap.size:=blk_lt B3;replace B2:=Aa hxa B2;replace B3:=Aa hxa B3;replace RA:=RA.ext hxa;replace RL:=RL.ext hxa;replace s:=s.ext hxa;have B4:=blk_new w1 (.cells #[.slice o1 t.ases.length c1,.slice o2 t.links.length c2] 27)
 obtain⟨b4,eb4⟩:∃ b,b=w1.heap.size:=⟨_,rfl⟩
 rw [← eb4] at B4 lt_w lt_B2 lt_B3;have lt_B2_B4:=lt_B2;clear lt_B2;have lt_B3_B4:=lt_B3;clear lt_B3;have ltw_B4:=lt_w;clear lt_w hxa
 try rw [← eb4]
 generalize (w1.alloc (.cells #[.slice o1 t.ases.length c1,.slice o2 t.links.length c2] 27))=wa at B2 B3 B4 RA RL s ⊢
 clear eb4;have cb_B2:=blk2 B2;have cb_B3:=blk1 B3;have cb_B4:=blk2 B4
 go_wp2_with fail
 clear cb_B2 cb_B3 cb_B4;have hbs:=s.x.size;refine(s_l9Grow g t (.slice o1 t.ases.length c1) (.slice o2 t.links.length c2) 2 _ _ _ s.c TK (St.ofF RA hgw) (St.ofF RL hgw)).mono ?_;rintro e w2 ⟨vu,u,rfl,SDu,RU,hcq,hzq⟩;replace RU:=RU.mono hbs;replace B2:=hzq.blkS B2 (by unfold at1;omega);replace B3:=hzq.blkS B3 (by unfold at1;omega);replace B4:=hzq.blkS B4 (by unfold at1;omega);replace RA:=RA.at1 hzq hgw;replace RL:=RL.at1 hzq hgw;replace s:=s.draw hcq hzq;clear hcq hzq hbs;obtain⟨o_u,c_u,rfl,_⟩:=(Bb (hf:=Ao) RU).shape;have cb_B2:=blk2 B2;have cb_B3:=blk1 B3;have cb_B4:=blk2 B4
 go_upto_region 3 with (fail)
 clear cb_B2 cb_B3 cb_B4;have hxa:Ext w2 (w2.alloc (.cells #[.int .i64 u.ts,.int .i64 u.beta,.slice o_u u.hops.length c_u] 116)):=(Ab _).alloc _;have lt_w:w.heap.size≤w2.heap.size:=s.x.size;have lt_B2:w.heap.size<w2.heap.size:=blk_lt B2;have lt_B3:(w.heap.size+1)<w2.heap.size:=blk_lt B3;have lt_B4:b4<w2.heap.size:=blk_lt B4;replace B2:=Aa hxa B2;replace B3:=Aa hxa B3;replace B4:=Aa hxa B4;replace RA:=RA.ext hxa;replace RL:=RL.ext hxa;replace RU:=RU.ext hxa;replace s:=s.ext hxa;have B5:=blk_new w2 (.cells #[.int .i64 u.ts,.int .i64 u.beta,.slice o_u u.hops.length c_u] 116)
 obtain⟨b5,eb5⟩:∃ b,b=w2.heap.size:=⟨_,rfl⟩
 rw [← eb5] at B5 lt_w lt_B2 lt_B3 lt_B4;have lt_B2_B5:=lt_B2;clear lt_B2;have lt_B3_B5:=lt_B3;clear lt_B3;have lt_B4_B5:=lt_B4;clear lt_B4;have ltw_B5:=lt_w;clear lt_w hxa
 try rw [← eb5]
 generalize (w2.alloc (.cells #[.int .i64 u.ts,.int .i64 u.beta,.slice o_u u.hops.length c_u] 116))=wb at B2 B3 B4 B5 RA RL RU s ⊢
 clear eb5;have cb_B2:=blk2 B2;have cb_B3:=blk1 B3;have cb_B4:=blk2 B4;have cb_B5:=blk3 B5
 go_wp2_with fail
 clear cb_B2 cb_B3 cb_B4 cb_B5;have hbs:=s.x.size;refine(s_l9Grow g t (.slice o1 t.ases.length c1) (.slice o2 t.links.length c2) 2 _ _ _ s.c TK (St.ofF RA hgw) (St.ofF RL hgw)).mono ?_;rintro e w3 ⟨vd,d,rfl,SDd,RD,hcq,hzq⟩;replace RD:=RD.mono hbs;replace B2:=hzq.blkS B2 (by unfold at1;omega);replace B3:=hzq.blkS B3 (by unfold at1;omega);replace B4:=hzq.blkS B4 (by unfold at1;omega);replace B5:=hzq.blkS B5 (by unfold at1;omega);replace RA:=RA.at1 hzq hgw;replace RL:=RL.at1 hzq hgw;replace RU:=RU.at1 hzq hgw;replace s:=s.draw hcq hzq;clear hcq hzq hbs;obtain⟨o_d,c_d,rfl,_⟩:=(Bb (hf:=Ao) RD).shape;have cb_B2:=blk2 B2;have cb_B3:=blk1 B3;have cb_B4:=blk2 B4;have cb_B5:=blk3 B5
 go_upto_region 4 with (fail)
 clear cb_B2 cb_B3 cb_B4 cb_B5;have hxa:Ext w3 (w3.alloc (.cells #[.int .i64 d.ts,.int .i64 d.beta,.slice o_d d.hops.length c_d] 116)):=(Ab _).alloc _;have lt_w:w.heap.size≤w3.heap.size:=s.x.size;have lt_B2:w.heap.size<w3.heap.size:=blk_lt B2;have lt_B3:(w.heap.size+1)<w3.heap.size:=blk_lt B3;have lt_B4:b4<w3.heap.size:=blk_lt B4;have lt_B5:b5<w3.heap.size:=blk_lt B5;replace B2:=Aa hxa B2;replace B3:=Aa hxa B3;replace B4:=Aa hxa B4;replace B5:=Aa hxa B5;replace RA:=RA.ext hxa;replace RL:=RL.ext hxa;replace RU:=RU.ext hxa;replace RD:=RD.ext hxa;replace s:=s.ext hxa;have B6:=blk_new w3 (.cells #[.int .i64 d.ts,.int .i64 d.beta,.slice o_d d.hops.length c_d] 116)
 obtain⟨b6,eb6⟩:∃ b,b=w3.heap.size:=⟨_,rfl⟩
 rw [← eb6] at B6 lt_w lt_B2 lt_B3 lt_B4 lt_B5;have lt_B2_B6:=lt_B2;clear lt_B2;have lt_B3_B6:=lt_B3;clear lt_B3;have lt_B4_B6:=lt_B4;clear lt_B4;have lt_B5_B6:=lt_B5;clear lt_B5;have ltw_B6:=lt_w;clear lt_w hxa
 try rw [← eb6]
 generalize (w3.alloc (.cells #[.int .i64 d.ts,.int .i64 d.beta,.slice o_d d.hops.length c_d] 116))=wc1 at B2 B3 B4 B5 B6 RA RL RU RD s ⊢
 clear eb6;have cb_B2:=blk2 B2;have cb_B3:=blk1 B3;have cb_B4:=blk2 B4;have cb_B5:=blk3 B5;have cb_B6:=blk3 B6
 go_wp2_with fail
 clear cb_B2 cb_B3 cb_B4 cb_B5 cb_B6;have hbs:=s.x.size;refine(s_l9Grow g t (.slice o1 t.ases.length c1) (.slice o2 t.links.length c2) 1 _ _ _ s.c TK (St.ofF RA hgw) (St.ofF RL hgw)).mono ?_;rintro e w4 ⟨vc,c,rfl,SDc,RC,hcq,hzq⟩;replace RC:=RC.mono hbs;replace B2:=hzq.blkS B2 (by unfold at1;omega);replace B3:=hzq.blkS B3 (by unfold at1;omega);replace B4:=hzq.blkS B4 (by unfold at1;omega);replace B5:=hzq.blkS B5 (by unfold at1;omega);replace B6:=hzq.blkS B6 (by unfold at1;omega);replace RA:=RA.at1 hzq hgw;replace RL:=RL.at1 hzq hgw;replace RU:=RU.at1 hzq hgw;replace RD:=RD.at1 hzq hgw;replace s:=s.draw hcq hzq;clear hcq hzq hbs;obtain⟨o_c,c_c,rfl,_⟩:=(Bb (hf:=Ao) RC).shape;have cb_B2:=blk2 B2;have cb_B3:=blk1 B3;have cb_B4:=blk2 B4;have cb_B5:=blk3 B5;have cb_B6:=blk3 B6
 go_upto_region 5 with (fail)
 clear cb_B2 cb_B3 cb_B4 cb_B5 cb_B6;have hxa:Ext w4 (w4.alloc (.cells #[.int .i64 c.ts,.int .i64 c.beta,.slice o_c c.hops.length c_c] 116)):=(Ab _).alloc _;have lt_w:w.heap.size≤w4.heap.size:=s.x.size;have lt_B2:w.heap.size<w4.heap.size:=blk_lt B2;have lt_B3:(w.heap.size+1)<w4.heap.size:=blk_lt B3;have lt_B4:b4<w4.heap.size:=blk_lt B4;have lt_B5:b5<w4.heap.size:=blk_lt B5;have lt_B6:b6<w4.heap.size:=blk_lt B6;replace B2:=Aa hxa B2;replace B3:=Aa hxa B3;replace B4:=Aa hxa B4;replace B5:=Aa hxa B5;replace B6:=Aa hxa B6;replace RA:=RA.ext hxa;replace RL:=RL.ext hxa;replace RU:=RU.ext hxa;replace RD:=RD.ext hxa;replace RC:=RC.ext hxa;replace s:=s.ext hxa;have B7:=blk_new w4 (.cells #[.int .i64 c.ts,.int .i64 c.beta,.slice o_c c.hops.length c_c] 116)
 obtain⟨b7,eb7⟩:∃ b,b=w4.heap.size:=⟨_,rfl⟩
 rw [← eb7] at B7 lt_w lt_B2 lt_B3 lt_B4 lt_B5 lt_B6;have lt_B2_B7:=lt_B2;clear lt_B2;have lt_B3_B7:=lt_B3;clear lt_B3;have lt_B4_B7:=lt_B4;clear lt_B4;have lt_B5_B7:=lt_B5;clear lt_B5;have lt_B6_B7:=lt_B6;clear lt_B6;have ltw_B7:=lt_w;clear lt_w hxa
 try rw [← eb7]
 generalize (w4.alloc (.cells #[.int .i64 c.ts,.int .i64 c.beta,.slice o_c c.hops.length c_c] 116))=wd1 at B2 B3 B4 B5 B6 B7 RA RL RU RD RC s ⊢
 clear eb7;have cb_B2:=blk2 B2;have cb_B3:=blk1 B3;have cb_B4:=blk2 B4;have cb_B5:=blk3 B5;have cb_B6:=blk3 B6;have cb_B7:=blk3 B7
 go_upto_region 6 with (fail)
 clear cb_B2 cb_B3 cb_B4 cb_B5 cb_B6 cb_B7;have hxa:Ext wd1 (wd1.alloc (.cells #[.slice none 0 0] 30)):=(Ab _).alloc _;have lt_w:w.heap.size≤wd1.heap.size:=s.x.size;have lt_B2:w.heap.size<wd1.heap.size:=blk_lt B2;have lt_B3:(w.heap.size+1)<wd1.heap.size:=blk_lt B3;have lt_B4:b4<wd1.heap.size:=blk_lt B4;have lt_B5:b5<wd1.heap.size:=blk_lt B5;have lt_B6:b6<wd1.heap.size:=blk_lt B6;have lt_B7:b7<wd1.heap.size:=blk_lt B7;replace B2:=Aa hxa B2;replace B3:=Aa hxa B3;replace B4:=Aa hxa B4;replace B5:=Aa hxa B5;replace B6:=Aa hxa B6;replace B7:=Aa hxa B7;replace RA:=RA.ext hxa;replace RL:=RL.ext hxa;replace RU:=RU.ext hxa;replace RD:=RD.ext hxa;replace RC:=RC.ext hxa;replace s:=s.ext hxa;have B8:=blk_new wd1 (.cells #[.slice none 0 0] 30)
 obtain⟨b8,eb8⟩:∃ b,b=wd1.heap.size:=⟨_,rfl⟩
 rw [← eb8] at B8 lt_w lt_B2 lt_B3 lt_B4 lt_B5 lt_B6 lt_B7;have lt_B2_B8:=lt_B2;clear lt_B2;have lt_B3_B8:=lt_B3;clear lt_B3;have lt_B4_B8:=lt_B4;clear lt_B4;have lt_B5_B8:=lt_B5;clear lt_B5;have lt_B6_B8:=lt_B6;clear lt_B6;have lt_B7_B8:=lt_B7;clear lt_B7;have ltw_B8:=lt_w;clear lt_w hxa
 try rw [← eb8]
 generalize (wd1.alloc (.cells #[.slice none 0 0] 30))=we at B2 B3 B4 B5 B6 B7 B8 RA RL RU RD RC s ⊢
 clear eb8
 have KRA : KS (paS w.heap.size b5 b6 b8) ASd.rep we _ _ := fun w5 c5 => Bb (hf := ASd.flen) (RA.chg c5 (fun k hk e => by
  have h1 := (RA.block k hk).1
  rcases e with e | e | e | e
  ·
   rcases Nat.lt_or_ge k w.heap.size with h2 | h2
   ·
    omega
   rcases Nat.eq_or_lt_of_le h2 with h3 | h3
   ·
    exact RA.ne B2 (by decide) (by rw [hk, h3])
   exact RA.ne B3 (by decide) (by rw [hk]; congr 1; omega)
  ·
   exact RA.ne B5 (by decide) (by rw [hk, e])
  ·
   exact RA.ne B6 (by decide) (by rw [hk, e])
  exact RA.ne B8 (by decide) (by rw [hk, e])))
 have KRL : KS (paS w.heap.size b5 b6 b8) Lnk.rep we _ _ := fun w5 c5 => Bb (hf := Lnk.flen) (RL.chg c5 (fun k hk e => by
  have h1 := (RL.block k hk).1
  rcases e with e | e | e | e
  ·
   rcases Nat.lt_or_ge k w.heap.size with h2 | h2
   ·
    omega
   rcases Nat.eq_or_lt_of_le h2 with h3 | h3
   ·
    exact RL.ne B2 (by decide) (by rw [hk, h3])
   exact RL.ne B3 (by decide) (by rw [hk]; congr 1; omega)
  ·
   exact RL.ne B5 (by decide) (by rw [hk, e])
  ·
   exact RL.ne B6 (by decide) (by rw [hk, e])
  exact RL.ne B8 (by decide) (by rw [hk, e])))
 have KRU : KS (paS w.heap.size b5 b6 b8) Hop.rep we _ _ := fun w5 c5 => Bb (hf := Ao) (RU.chg c5 (fun k hk e => by
  have h1 := (RU.block k hk).1
  rcases e with e | e | e | e
  ·
   rcases Nat.lt_or_ge k w.heap.size with h2 | h2
   ·
    omega
   rcases Nat.eq_or_lt_of_le h2 with h3 | h3
   ·
    exact RU.ne B2 (by decide) (by rw [hk, h3])
   exact RU.ne B3 (by decide) (by rw [hk]; congr 1; omega)
  ·
   exact RU.ne B5 (by decide) (by rw [hk, e])
  ·
   exact RU.ne B6 (by decide) (by rw [hk, e])
  exact RU.ne B8 (by decide) (by rw [hk, e])))
 have KRD : KS (paS w.heap.size b5 b6 b8) Hop.rep we _ _ := fun w5 c5 => Bb (hf := Ao) (RD.chg c5 (fun k hk e => by
  have h1 := (RD.block k hk).1
  rcases e with e | e | e | e
  ·
   rcases Nat.lt_or_ge k w.heap.size with h2 | h2
   ·
    omega
   rcases Nat.eq_or_lt_of_le h2 with h3 | h3
   ·
    exact RD.ne B2 (by decide) (by rw [hk, h3])
   exact RD.ne B3 (by decide) (by rw [hk]; congr 1; omega)
  ·
   exact RD.ne B5 (by decide) (by rw [hk, e])
  ·
   exact RD.ne B6 (by decide) (by rw [hk, e])
  exact RD.ne B8 (by decide) (by rw [hk, e])))
 have KRC : KS (paS w.heap.size b5 b6 b8) Hop.rep we _ _ := fun w5 c5 => Bb (hf := Ao) (RC.chg c5 (fun k hk e => by
  have h1 := (RC.block k hk).1
  rcases e with e | e | e | e
  ·
   rcases Nat.lt_or_ge k w.heap.size with h2 | h2
   ·
    omega
   rcases Nat.eq_or_lt_of_le h2 with h3 | h3
   ·
    exact RC.ne B2 (by decide) (by rw [hk, h3])
   exact RC.ne B3 (by decide) (by rw [hk]; congr 1; omega)
  ·
   exact RC.ne B5 (by decide) (by rw [hk, e])
  ·
   exact RC.ne B6 (by decide) (by rw [hk, e])
  exact RC.ne B8 (by decide) (by rw [hk, e])))
 have hb34:w.heap.size+1<b4:=by omega
 have hb45:b4<b5:=by omega
 have hb56:b5<b6:=by omega
 have hb67:b6<b7:=by omega
 have hb78:b7<b8:=by omega
 have P:PaSt (paS w.heap.size b5 b6 b8) g cv cd w b4 b5 b6 b7 b8 (.slice o1 t.ases.length c1) (.slice o2 t.links.length c2) (.slice o_u u.hops.length c_u) (.slice o_d d.hops.length c_d) (.slice o_c c.hops.length c_c) (.slice none 0 0) t u d c we:=⟨s.c,s.x,s.c0,B2,B3,B4,B5,B6,B7,B8,KRA,KRL,KRU,KRD,KRC,fun _ h=>h,hb34,hb45,hb56,hb67,hb78⟩
 have hl8:b8<we.heap.size:=blk_lt B8;clear s B2 B3 B4 B5 B6 B7 B8 KRA KRL KRU KRD KRC RA RL RU RD RC hb34 hb45 hb56 hb67 hb78
 go_wp2_with fail
 refine(s_l1Below g (5) _ _ _ P.cu).mono ?_;rintro e w5 ⟨q,rfl,hq0,hq1,hcq,hzq⟩;replace P:=P.draw hcq hzq;clear hcq hzq;have hq2:q=0∨q=1∨q=2∨(q≠0∧q≠1∧q≠2):=by omega
 clear hq0 hq1
 rcases hq2 with rfl | rfl | rfl | ⟨hq0,hq1,hq2⟩
 ·
  go_upto_region 8 with (fail)
  refine Bl (at1 w.heap.size) [([0,1,2],3),([],4)] [] [5] (by kernel_rfl) (by kernel_rfl) (by kernel_rfl) ?_;have e4:=P.o4;have e5:=P.o5;have e6:=P.o6;have e7:=P.o7;have e8:=P.o8;have elt:=P.c0.lt;have ch4:=blk2 P.p4;have q0:=Cj (S:=at1 w.heap.size) ch4 (by first | omega | (unfold at1;omega) | (simp only;omega));clear ch4;have ch5:=blk3 P.p5;have q2:=ChgSW.c3 (S:=at1 w.heap.size) ch5 (by first | omega | (unfold at1;omega) | (simp only;omega));clear ch5;have ch6:=blk3 P.p6;have q5:=ChgSW.c3 (S:=at1 w.heap.size) ch6 (by first | omega | (unfold at1;omega) | (simp only;omega));clear ch6;clear e4 e5 e6 e7 e8 elt;simp only [wpBlocksX,pickOps,PK];have hch:Chg (at1 w.heap.size) w5 w5.drew:=Ar (Ab w5).drew;replace P:=P.ext ((Ab w5).drew)
  obtain⟨wq,hnw⟩:∃ wn,wn=w5.drew:=⟨_,rfl⟩
  rw [← hnw] at P hch ⊢
  clear hnw
  repeat (first | go_big_quiet_step (fail) | quiet_step (fail))
  refine wpQuiet_nil ?_;replace P:=P.open_
  obtain⟨M,hM⟩:∃ M,M=wq.heap.size:=⟨_,rfl⟩
  rw [← hM] at P;have SM:∀ b,M≤b→(paS w.heap.size b5 b6 b8 b∨M≤b):=fun b h=>.inr h
  have hM2:w.heap.size+1<M:=by have h1:=blk_lt P.p3;omega
  have hlu:=SDu.len;have hld:=SDd.len
  go_wp2_with fail
  refine(s_l22Meet u d _ _ _ P.ku.rd P.kd.rd (by omega) (by omega)).mono ?_;rintro e wm ⟨vm,l,rfl,hl,om,hzm⟩;rw [← hM] at om;replace P:=P.ext hzm;replace hch:=hch.trans (Ar hzm);obtain⟨o_m,c_m,rfl,_⟩:=(Bs om).shape
  go_wp2_with fail
  refine⟨⟨⟨_,hch⟩,rfl⟩,?_⟩
  repeat (first | go_big_quiet_step (fail) | quiet_step (fail))
  refine wpQuiet_nil ?_;have hMm:M≤wm.heap.size:=by have h1:=hzm.size;omega
  clear hM hzm
  have PD:PthDrawn t ⟨l⟩:=by
   rcases hl with rfl | ⟨i,k,hi,hk,rfl⟩
   ·
    exact PthDrawn.nil t
   exact ⟨by simp, fun x hx => by
    rcases List.mem_cons.1 hx with rfl | hx
    ·
     exact makePart_drawn SDu (by omega) hi
    obtain rfl := List.mem_singleton.1 hx
    exact makePart_drawn SDd (by omega) hk⟩
  clear hl;obtain⟨wx,wy,ex,ey,hx3,hy2,hy3,hyc,hyx,hka,hkl,hpo,hcx,hMy⟩:=P.fin SM om (by omega) hMm;have HEX:=Ac ex;have HEY:=Ac ey;have HX3:=Ac hx3;clear ex ey hx3;have cp2:=blk2 P.p2;have f20:=fr_of P.p2 0;have f21:=fr_of P.p2 1
  go_wp2_with fail
  rw [← HEX.out];clear HEX cp2 f20 f21;refine⟨⟨⟨_,hch.trans hcx⟩,rfl⟩,?_⟩
  repeat (first | go_big_quiet_step (fail) | quiet_step (fail))
  refine wpQuiet_nil ?_;have cq3:=blk1 HX3.out;have f30:=fr_of HX3.out 0
  go_wp2_with fail
  rw [← HEY.out];clear HEY cq3 f30;clear q0 q2 q5;refine NoPanic.normal ?_;have cq2:=blk2 hy2;have cq3:=blk1 hy3;have hsz:=hyx.size
  go_wp2_with fail
  refine bodyPost_ret (by simp [results,Tryz.results35,go_sem,cq2,cq3];rfl) rfl ?_;exact⟨_,_,_,t,⟨l⟩,M,rfl,TK,PD,by omega,hMy,hka,hkl,Bg hpo (Ae _),hyc,hyx⟩
 ·
  have cp5:=blk3 P.p5;have hl0:u.hops.length=0∨0<u.hops.length:=by omega
  rcases hl0 with hl0 | hl0
  ·
   have hl1:decide ((0:Int)<(u.hops.length:Int))=false:=decide_eq_false (by omega)
   go_upto_region 12 with (fail)
   clear hl0 hl1 cp5;refine Bl (at1 w.heap.size) [([0,1],2)] [] [3] (by kernel_rfl) (by kernel_rfl) (by kernel_rfl) ?_;have e4:=P.o4;have e5:=P.o5;have e6:=P.o6;have e7:=P.o7;have e8:=P.o8;have elt:=P.c0.lt;have ch4:=blk2 P.p4;have q0:=Cj (S:=at1 w.heap.size) ch4 (by first | omega | (unfold at1;omega) | (simp only;omega));clear ch4;have ch8:=blk1 P.p8;have q2:=Aw (S:=at1 w.heap.size) (ch8) (by unfold at1;simp only;omega);clear ch8;clear e4 e5 e6 e7 e8 elt;simp only [wpBlocksX,pickOps,PK];have hch:Chg (at1 w.heap.size) w5 w5.drew:=Ar (Ab w5).drew;replace P:=P.ext ((Ab w5).drew)
   obtain⟨wt,hnw⟩:∃ wn,wn=w5.drew:=⟨_,rfl⟩
   rw [← hnw] at P hch ⊢
   clear hnw
   repeat (first | go_big_quiet_step (fail) | quiet_step (fail))
   refine wpQuiet_nil ?_;replace P:=P.open_
   obtain⟨M,hM⟩:∃ M,M=wt.heap.size:=⟨_,rfl⟩
   rw [← hM] at P;have SM:∀ b,M≤b→(paS w.heap.size b5 b6 b8 b∨M≤b):=fun b h=>.inr h
   have hM2:w.heap.size+1<M:=by have h1:=blk_lt P.p3;omega
   have OW3:Part.own.own (rng M wt.heap.size) wt (.slice none 0 0) []:=Own.mono _ (Part.own.nil _) (fun _ h=>h.elim);have hMm:M≤wt.heap.size:=by omega
   clear hM;obtain⟨wx,wy,ex,ey,hx3,hy2,hy3,hyc,hyx,hka,hkl,hpo,hcx,hMy⟩:=P.fin SM OW3 (by omega) hMm;have HEX:=Ac ex;have HEY:=Ac ey;have HX3:=Ac hx3;clear ex ey hx3;have cp2:=blk2 P.p2;have f20:=fr_of P.p2 0;have f21:=fr_of P.p2 1
   go_wp2_with fail
   rw [← HEX.out];clear HEX cp2 f20 f21;refine⟨⟨⟨_,hch.trans hcx⟩,rfl⟩,?_⟩
   repeat (first | go_big_quiet_step (fail) | quiet_step (fail))
   refine wpQuiet_nil ?_;have cq3:=blk1 HX3.out;have f30:=fr_of HX3.out 0
   go_wp2_with fail
   rw [← HEY.out];clear HEY cq3 f30;clear q0 q2;refine NoPanic.normal ?_;have cq2:=blk2 hy2;have cq3:=blk1 hy3;have hsz:=hyx.size
   go_wp2_with fail
   refine bodyPost_ret (by simp [results,Tryz.results35,go_sem,cq2,cq3];rfl) rfl ?_;exact⟨_,_,_,t,⟨[]⟩,M,rfl,TK,(PthDrawn.nil t),by omega,hMy,hka,hkl,Bg hpo (Ae _),hyc,hyx⟩
  have hl1:decide ((0:Int)<(u.hops.length:Int))=true:=decide_eq_true (by omega)
  go_upto_region 11 with (fail)
  clear cp5 hl1;refine Bl (at1 g) [([0,1,2,3],4),([],5),([],6),([],7)] [] [8,9,10] (by kernel_rfl) (by kernel_rfl) (by kernel_rfl) ?_;have e4:=P.o4;have e5:=P.o5;have e6:=P.o6;have e7:=P.o7;have e8:=P.o8;have elt:=P.c0.lt;have ch8:=blk1 P.p8;have q0:=Aw (S:=at1 g) (ch8) (by unfold at1;simp only;omega);clear ch8;have ch5:=blk3 P.p5;have q1:=ChgSW.c3 (S:=at1 g) ch5 (by first | omega | (unfold at1;omega) | (simp only;omega));clear ch5;clear e4 e5 e6 e7 e8 elt;simp only [wpBlocksX,pickOps,PK];have hch:Chg (at1 g) w5 w5.drew:=Ar (Ab w5).drew;replace P:=P.ext ((Ab w5).drew)
  obtain⟨wq,hnw⟩:∃ wn,wn=w5.drew:=⟨_,rfl⟩
  rw [← hnw] at P hch ⊢
  clear hnw
  repeat (first | go_big_quiet_step (fail) | quiet_step (fail))
  refine wpQuiet_nil ?_
  go_wp2_with fail
  refine⟨⟨⟨_,hch.trans (Ar ((Ab _).alloc _))⟩,rfl⟩,?_⟩
  repeat (first | go_big_quiet_step (fail) | quiet_step (fail))
  refine wpQuiet_nil ?_
  go_wp2_with fail
  refine(s_l1Int g [1,4] _ _ _ P.cu (by decide) (by decide)).mono ?_;rintro e wi ⟨kd,rfl,hmk,hcq,hzq⟩;replace P:=P.draw hcq hzq;replace hch:=hch.trans hzq;clear hcq hzq;have hkd:1≤kd∧kd≤4:=by simp at hmk;omega
  clear hmk
  go_wp2_with fail
  refine⟨⟨⟨_,hch⟩,rfl⟩,?_⟩
  repeat (first | go_big_quiet_step (fail) | quiet_step (fail))
  refine wpQuiet_nil ?_;have hls:=SDu.len
  go_wp2_with fail
  refine(s_MakePart u _ kd (0:Int) _ P.ku.rd (by omega)).mono ?_;rintro e wA ⟨uA,rfl,oA,hzA⟩
  obtain⟨pA,hpA⟩:∃ pA,pA=makePart u kd (0:Nat):=⟨_,rfl⟩
  have hpA2:makePart u kd 0=pA:=hpA.symm;rw [hpA2] at oA ⊢
  have PDA:PartDrawn t pA:=by rw [hpA];exact makePart_drawn SDu (by omega) hl0
  clear hpA2 hpA;obtain⟨o_p,c_p,rfl,_⟩:=(Bb (hf:=Ao) oA).shape;replace P:=P.open_
  obtain⟨M,hM⟩:∃ M,M=wi.heap.size:=⟨_,rfl⟩
  rw [← hM] at P;have hM2:b8<M:=by rw [hM];exact blk_lt P.p8
  have SM:∀ b,M≤b→(paS w.heap.size b5 b6 b8 b∨M≤b):=fun b h=>.inr h
  have hMs:M≤wi.heap.size:=by omega
  have OW:Part.own.own (rng M wi.heap.size) wi (.slice none 0 0) []:=Own.mono _ (Part.own.nil _) (fun _ h=>h.elim);clear hM;replace P:=P.ext hzA;replace hch:=hch.trans (Ar hzA)
  go_wp2_with fail
  refine⟨⟨⟨_,hch⟩,rfl⟩,?_⟩
  repeat (first | go_big_quiet_step (fail) | quiet_step (fail))
  refine wpQuiet_nil ?_;have hxB:Ext wi (wA.alloc (.cells #[.int .i64 pA.kind,.int .i64 pA.ts,.int .i64 pA.beta,.slice o_p pA.hops.length c_p] 99)):=hzA.alloc _;have P2:=P.ext ((Ab wA).alloc (.cells #[.int .i64 pA.kind,.int .i64 pA.ts,.int .i64 pA.beta,.slice o_p pA.hops.length c_p] 99))
  go_wp2_with fail
  refine⟨⟨⟨_,hch.trans (Ar ((Ab _).alloc _))⟩,rfl⟩,?_⟩
  repeat (first | go_big_quiet_step (fail) | quiet_step (fail))
  refine wpQuiet_nil ?_;refine appG (w0:=wi) (c:=Part.c) (hc:=Part.clen) (sub:=(·.hops)) (I:=Own.flat Hop.f 5 Ao 103) (S:=rng M wi.heap.size) EP rfl _ _ rfl pA (.slice o_p pA.hops.length c_p) (rng wi.heap.size wA.heap.size) (part_oneC _ _ _ _) rfl OW hxB (Aj (O:=Own.flat Hop.f 5 Ao 103) (Own.ofF oA) ((Ab wA).alloc _)) (fun q hq=>⟨hq.1,by have h1:=hq.2;simp;omega⟩) rfl (by exact Au (Part.c pA (.slice o_p pA.hops.length c_p)) (blk_new wA _)) (by first | omega | simp) (by first | (unfold maxLen;omega) | simp [maxLen]) ?_;intro v' w' ho' hg' hvS;have hxg:Chg (fun b=>b=b8∨M≤b) (wA.alloc (.cells #[.int .i64 pA.kind,.int .i64 pA.ts,.int .i64 pA.beta,.slice o_p pA.hops.length c_p] 99)) w':=Bn hg' (fun k hk=>.inr (hvS k hk).1);have p8n:=hg'.block b8 (Ak (blk_lt P2.p8) (Ae _)) (fun e=>by have h1:=(hvS b8 e.symm).1;omega);rw [P2.p8] at p8n;have hsg:=hg'.size
  obtain⟨ln,hln⟩:∃ ln,ln=[] ++ [pA]:=⟨_,rfl⟩
  rw [← hln] at ho';have HLN:=Ac hln;clear hln
  have OW2 : Part.own.own (rng M w'.heap.size) w' v' ln := Own.mono _ ho' (fun q hq => by
   have hzs := hzA.size
   rcases hq with h1 | h1
   ·
    exact ⟨h1.1, by have h2 := h1.2; simp at hsg; omega⟩
   exact ⟨by have h2 := h1.1; omega, h1.2⟩)
  clear ho' oA hvS;obtain⟨o',c',rfl,_⟩:=(Bs OW2).shape;obtain⟨wF,hwF,hbF,hcF⟩:=one_set p8n 0 (.slice o' ln.length c');simp only [List.setIfInBounds_toArray,List.set_cons_zero] at hbF;have HWF:=Ac hwF;have hszF:wF.heap.size=w'.heap.size:=by rw [hwF];simp
  have hMF:M≤wF.heap.size:=by have h1:=hzA.size;simp at hsg;omega
  clear hwF;have c8:=blk1 p8n;have f8:=fr_of p8n 0
  go_wp2_with fail
  rw [← HWF.out];clear HWF c8 f8 p8n hg';replace P:=P2.grow hM2 SM (hxg.trans (hcF.mono (fun b h=>.inl h))) hbF;have OW3:Part.own.own (rng M wF.heap.size) wF (.slice o' ln.length c') ln:=Bg (Af OW2 hcF (.inl (by omega))) (Ae _);clear P2 hxg hbF hcF OW OW2 hxB hzA;refine NoPanic.normal ?_;clear q0 q1
  go_upto_region 12 with (fail)
  have OW:=OW3;clear OW3;have hMz:M≤wF.drew.heap.size:=hMF;refine Bl (at1 w.heap.size) [([0,1],2)] [] [3] (by kernel_rfl) (by kernel_rfl) (by kernel_rfl) ?_;have e4:=P.o4;have e5:=P.o5;have e6:=P.o6;have e7:=P.o7;have e8:=P.o8;have elt:=P.c0.lt;have ch4:=blk2 P.p4;have q0:=Cj (S:=at1 w.heap.size) ch4 (by first | omega | (unfold at1;omega) | (simp only;omega));clear ch4;have ch8:=blk1 P.p8;have q2:=Aw (S:=at1 w.heap.size) (ch8) (by unfold at1;simp only;omega);clear ch8;clear e4 e5 e6 e7 e8 elt;simp only [wpBlocksX,pickOps,PK];have hch:Chg (at1 w.heap.size) wF wF.drew:=Ar (Ab wF).drew;replace P:=P.ext ((Ab wF).drew);replace OW:=Aj OW ((Ab wF).drew)
  obtain⟨wt,hnw⟩:∃ wn,wn=wF.drew:=⟨_,rfl⟩
  rw [← hnw] at P hch OW hMz ⊢
  clear hnw;have hMm:=hMz;clear hMz
  repeat (first | go_big_quiet_step (fail) | quiet_step (fail))
  refine wpQuiet_nil ?_;have hM3:w.heap.size+1<M:=by have h1:=P.o4;have h2:=P.o5;have h3:=P.o6;have h4:=P.o7;have h5:=P.o8;omega
  obtain⟨wx,wy,ex,ey,hx3,hy2,hy3,hyc,hyx,hka,hkl,hpo,hcx,hMy⟩:=P.fin SM OW (by omega) hMm;have HEX:=Ac ex;have HEY:=Ac ey;have HX3:=Ac hx3;clear ex ey hx3;have cp2:=blk2 P.p2;have f20:=fr_of P.p2 0;have f21:=fr_of P.p2 1
  go_wp2_with fail
  rw [← HEX.out];clear HEX cp2 f20 f21;refine⟨⟨⟨_,hch.trans hcx⟩,rfl⟩,?_⟩
  repeat (first | go_big_quiet_step (fail) | quiet_step (fail))
  refine wpQuiet_nil ?_;have cq3:=blk1 HX3.out;have f30:=fr_of HX3.out 0
  go_wp2_with fail
  rw [← HEY.out];clear HEY cq3 f30;clear q0 q2;refine NoPanic.normal ?_;have cq2:=blk2 hy2;have cq3:=blk1 hy3;have hsz:=hyx.size
  go_wp2_with fail
  refine bodyPost_ret (by simp [results,Tryz.results35,go_sem,cq2,cq3];rfl) rfl ?_;exact⟨_,_,_,t,⟨ln⟩,M,rfl,TK,(by rw [HLN.out];exact(PthDrawn.nil t).snoc (by simp) PDA),by omega,hMy,hka,hkl,Bg hpo (Ae _),hyc,hyx⟩
 ·
  have cp7:=blk3 P.p7;have hl0:c.hops.length=0∨0<c.hops.length:=by omega
  rcases hl0 with hl0 | hl0
  ·
   have hl1:decide ((0:Int)<(c.hops.length:Int))=false:=decide_eq_false (by omega)
   go_upto_region 16 with (fail)
   clear hl0 hl1 cp7;refine Bl (at1 w.heap.size) [([0,1],2)] [] [3] (by kernel_rfl) (by kernel_rfl) (by kernel_rfl) ?_;have e4:=P.o4;have e5:=P.o5;have e6:=P.o6;have e7:=P.o7;have e8:=P.o8;have elt:=P.c0.lt;have ch4:=blk2 P.p4;have q0:=Cj (S:=at1 w.heap.size) ch4 (by first | omega | (unfold at1;omega) | (simp only;omega));clear ch4;have ch8:=blk1 P.p8;have q2:=Aw (S:=at1 w.heap.size) (ch8) (by unfold at1;simp only;omega);clear ch8;clear e4 e5 e6 e7 e8 elt;simp only [wpBlocksX,pickOps,PK];have hch:Chg (at1 w.heap.size) w5 w5.drew:=Ar (Ab w5).drew;replace P:=P.ext ((Ab w5).drew)
   obtain⟨wt,hnw⟩:∃ wn,wn=w5.drew:=⟨_,rfl⟩
   rw [← hnw] at P hch ⊢
   clear hnw
   repeat (first | go_big_quiet_step (fail) | quiet_step (fail))
   refine wpQuiet_nil ?_;replace P:=P.open_
   obtain⟨M,hM⟩:∃ M,M=wt.heap.size:=⟨_,rfl⟩
   rw [← hM] at P;have SM:∀ b,M≤b→(paS w.heap.size b5 b6 b8 b∨M≤b):=fun b h=>.inr h
   have hM2:w.heap.size+1<M:=by have h1:=blk_lt P.p3;omega
   have OW3:Part.own.own (rng M wt.heap.size) wt (.slice none 0 0) []:=Own.mono _ (Part.own.nil _) (fun _ h=>h.elim);have hMm:M≤wt.heap.size:=by omega
   clear hM;obtain⟨wx,wy,ex,ey,hx3,hy2,hy3,hyc,hyx,hka,hkl,hpo,hcx,hMy⟩:=P.fin SM OW3 (by omega) hMm;have HEX:=Ac ex;have HEY:=Ac ey;have HX3:=Ac hx3;clear ex ey hx3;have cp2:=blk2 P.p2;have f20:=fr_of P.p2 0;have f21:=fr_of P.p2 1
   go_wp2_with fail
   rw [← HEX.out];clear HEX cp2 f20 f21;refine⟨⟨⟨_,hch.trans hcx⟩,rfl⟩,?_⟩
   repeat (first | go_big_quiet_step (fail) | quiet_step (fail))
   refine wpQuiet_nil ?_;have cq3:=blk1 HX3.out;have f30:=fr_of HX3.out 0
   go_wp2_with fail
   rw [← HEY.out];clear HEY cq3 f30;clear q0 q2;refine NoPanic.normal ?_;have cq2:=blk2 hy2;have cq3:=blk1 hy3;have hsz:=hyx.size
   go_wp2_with fail
   refine bodyPost_ret (by simp [results,Tryz.results35,go_sem,cq2,cq3];rfl) rfl ?_;exact⟨_,_,_,t,⟨[]⟩,M,rfl,TK,(PthDrawn.nil t),by omega,hMy,hka,hkl,Bg hpo (Ae _),hyc,hyx⟩
  have hl1:decide ((0:Int)<(c.hops.length:Int))=true:=decide_eq_true (by omega)
  go_upto_region 15 with (fail)
  clear cp7 hl1;refine Bl (at1 g) [([0,1,2,3],4),([],5),([],6),([],7)] [] [8,9,10] (by kernel_rfl) (by kernel_rfl) (by kernel_rfl) ?_;have e4:=P.o4;have e5:=P.o5;have e6:=P.o6;have e7:=P.o7;have e8:=P.o8;have elt:=P.c0.lt;have ch8:=blk1 P.p8;have q0:=Aw (S:=at1 g) (ch8) (by unfold at1;simp only;omega);clear ch8;have ch7:=blk3 P.p7;have q1:=ChgSW.c3 (S:=at1 g) ch7 (by first | omega | (unfold at1;omega) | (simp only;omega));clear ch7;clear e4 e5 e6 e7 e8 elt;simp only [wpBlocksX,pickOps,PK];have hch:Chg (at1 g) w5 w5.drew:=Ar (Ab w5).drew;replace P:=P.ext ((Ab w5).drew)
  obtain⟨wq,hnw⟩:∃ wn,wn=w5.drew:=⟨_,rfl⟩
  rw [← hnw] at P hch ⊢
  clear hnw
  repeat (first | go_big_quiet_step (fail) | quiet_step (fail))
  refine wpQuiet_nil ?_
  go_wp2_with fail
  refine⟨⟨⟨_,hch.trans (Ar ((Ab _).alloc _))⟩,rfl⟩,?_⟩
  repeat (first | go_big_quiet_step (fail) | quiet_step (fail))
  refine wpQuiet_nil ?_
  go_wp2_with fail
  refine(s_l1Int g [2,3] _ _ _ P.cu (by decide) (by decide)).mono ?_;rintro e wi ⟨kd,rfl,hmk,hcq,hzq⟩;replace P:=P.draw hcq hzq;replace hch:=hch.trans hzq;clear hcq hzq;have hkd:1≤kd∧kd≤4:=by simp at hmk;omega
  clear hmk
  go_wp2_with fail
  refine⟨⟨⟨_,hch⟩,rfl⟩,?_⟩
  repeat (first | go_big_quiet_step (fail) | quiet_step (fail))
  refine wpQuiet_nil ?_;have hls:=SDc.len
  go_wp2_with fail
  refine(s_MakePart c _ kd (0:Int) _ P.kc.rd (by omega)).mono ?_;rintro e wA ⟨uA,rfl,oA,hzA⟩
  obtain⟨pA,hpA⟩:∃ pA,pA=makePart c kd (0:Nat):=⟨_,rfl⟩
  have hpA2:makePart c kd 0=pA:=hpA.symm;rw [hpA2] at oA ⊢
  have PDA:PartDrawn t pA:=by rw [hpA];exact makePart_drawn SDc (by omega) hl0
  clear hpA2 hpA;obtain⟨o_p,c_p,rfl,_⟩:=(Bb (hf:=Ao) oA).shape;replace P:=P.open_
  obtain⟨M,hM⟩:∃ M,M=wi.heap.size:=⟨_,rfl⟩
  rw [← hM] at P;have hM2:b8<M:=by rw [hM];exact blk_lt P.p8
  have SM:∀ b,M≤b→(paS w.heap.size b5 b6 b8 b∨M≤b):=fun b h=>.inr h
  have hMs:M≤wi.heap.size:=by omega
  have OW:Part.own.own (rng M wi.heap.size) wi (.slice none 0 0) []:=Own.mono _ (Part.own.nil _) (fun _ h=>h.elim);clear hM;replace P:=P.ext hzA;replace hch:=hch.trans (Ar hzA)
  go_wp2_with fail
  refine⟨⟨⟨_,hch⟩,rfl⟩,?_⟩
  repeat (first | go_big_quiet_step (fail) | quiet_step (fail))
  refine wpQuiet_nil ?_;have hxB:Ext wi (wA.alloc (.cells #[.int .i64 pA.kind,.int .i64 pA.ts,.int .i64 pA.beta,.slice o_p pA.hops.length c_p] 99)):=hzA.alloc _;have P2:=P.ext ((Ab wA).alloc (.cells #[.int .i64 pA.kind,.int .i64 pA.ts,.int .i64 pA.beta,.slice o_p pA.hops.length c_p] 99))
  go_wp2_with fail
  refine⟨⟨⟨_,hch.trans (Ar ((Ab _).alloc _))⟩,rfl⟩,?_⟩
  repeat (first | go_big_quiet_step (fail) | quiet_step (fail))
  refine wpQuiet_nil ?_;refine appG (w0:=wi) (c:=Part.c) (hc:=Part.clen) (sub:=(·.hops)) (I:=Own.flat Hop.f 5 Ao 103) (S:=rng M wi.heap.size) EP rfl _ _ rfl pA (.slice o_p pA.hops.length c_p) (rng wi.heap.size wA.heap.size) (part_oneC _ _ _ _) rfl OW hxB (Aj (O:=Own.flat Hop.f 5 Ao 103) (Own.ofF oA) ((Ab wA).alloc _)) (fun q hq=>⟨hq.1,by have h1:=hq.2;simp;omega⟩) rfl (by exact Au (Part.c pA (.slice o_p pA.hops.length c_p)) (blk_new wA _)) (by first | omega | simp) (by first | (unfold maxLen;omega) | simp [maxLen]) ?_;intro v' w' ho' hg' hvS;have hxg:Chg (fun b=>b=b8∨M≤b) (wA.alloc (.cells #[.int .i64 pA.kind,.int .i64 pA.ts,.int .i64 pA.beta,.slice o_p pA.hops.length c_p] 99)) w':=Bn hg' (fun k hk=>.inr (hvS k hk).1);have p8n:=hg'.block b8 (Ak (blk_lt P2.p8) (Ae _)) (fun e=>by have h1:=(hvS b8 e.symm).1;omega);rw [P2.p8] at p8n;have hsg:=hg'.size
  obtain⟨ln,hln⟩:∃ ln,ln=[] ++ [pA]:=⟨_,rfl⟩
  rw [← hln] at ho';have HLN:=Ac hln;clear hln
  have OW2 : Part.own.own (rng M w'.heap.size) w' v' ln := Own.mono _ ho' (fun q hq => by
   have hzs := hzA.size
   rcases hq with h1 | h1
   ·
    exact ⟨h1.1, by have h2 := h1.2; simp at hsg; omega⟩
   exact ⟨by have h2 := h1.1; omega, h1.2⟩)
  clear ho' oA hvS;obtain⟨o',c',rfl,_⟩:=(Bs OW2).shape;obtain⟨wF,hwF,hbF,hcF⟩:=one_set p8n 0 (.slice o' ln.length c');simp only [List.setIfInBounds_toArray,List.set_cons_zero] at hbF;have HWF:=Ac hwF;have hszF:wF.heap.size=w'.heap.size:=by rw [hwF];simp
  have hMF:M≤wF.heap.size:=by have h1:=hzA.size;simp at hsg;omega
  clear hwF;have c8:=blk1 p8n;have f8:=fr_of p8n 0
  go_wp2_with fail
  rw [← HWF.out];clear HWF c8 f8 p8n hg';replace P:=P2.grow hM2 SM (hxg.trans (hcF.mono (fun b h=>.inl h))) hbF;have OW3:Part.own.own (rng M wF.heap.size) wF (.slice o' ln.length c') ln:=Bg (Af OW2 hcF (.inl (by omega))) (Ae _);clear P2 hxg hbF hcF OW OW2 hxB hzA;refine NoPanic.normal ?_;clear q0 q1
  go_upto_region 16 with (fail)
  have OW:=OW3;clear OW3;have hMz:M≤wF.drew.heap.size:=hMF;refine Bl (at1 w.heap.size) [([0,1],2)] [] [3] (by kernel_rfl) (by kernel_rfl) (by kernel_rfl) ?_;have e4:=P.o4;have e5:=P.o5;have e6:=P.o6;have e7:=P.o7;have e8:=P.o8;have elt:=P.c0.lt;have ch4:=blk2 P.p4;have q0:=Cj (S:=at1 w.heap.size) ch4 (by first | omega | (unfold at1;omega) | (simp only;omega));clear ch4;have ch8:=blk1 P.p8;have q2:=Aw (S:=at1 w.heap.size) (ch8) (by unfold at1;simp only;omega);clear ch8;clear e4 e5 e6 e7 e8 elt;simp only [wpBlocksX,pickOps,PK];have hch:Chg (at1 w.heap.size) wF wF.drew:=Ar (Ab wF).drew;replace P:=P.ext ((Ab wF).drew);replace OW:=Aj OW ((Ab wF).drew)
  obtain⟨wt,hnw⟩:∃ wn,wn=wF.drew:=⟨_,rfl⟩
  rw [← hnw] at P hch OW hMz ⊢
  clear hnw;have hMm:=hMz;clear hMz
  repeat (first | go_big_quiet_step (fail) | quiet_step (fail))
  refine wpQuiet_nil ?_;have hM3:w.heap.size+1<M:=by have h1:=P.o4;have h2:=P.o5;have h3:=P.o6;have h4:=P.o7;have h5:=P.o8;omega
  obtain⟨wx,wy,ex,ey,hx3,hy2,hy3,hyc,hyx,hka,hkl,hpo,hcx,hMy⟩:=P.fin SM OW (by omega) hMm;have HEX:=Ac ex;have HEY:=Ac ey;have HX3:=Ac hx3;clear ex ey hx3;have cp2:=blk2 P.p2;have f20:=fr_of P.p2 0;have f21:=fr_of P.p2 1
  go_wp2_with fail
  rw [← HEX.out];clear HEX cp2 f20 f21;refine⟨⟨⟨_,hch.trans hcx⟩,rfl⟩,?_⟩
  repeat (first | go_big_quiet_step (fail) | quiet_step (fail))
  refine wpQuiet_nil ?_;have cq3:=blk1 HX3.out;have f30:=fr_of HX3.out 0
  go_wp2_with fail
  rw [← HEY.out];clear HEY cq3 f30;clear q0 q2;refine NoPanic.normal ?_;have cq2:=blk2 hy2;have cq3:=blk1 hy3;have hsz:=hyx.size
  go_wp2_with fail
  refine bodyPost_ret (by simp [results,Tryz.results35,go_sem,cq2,cq3];rfl) rfl ?_;exact⟨_,_,_,t,⟨ln⟩,M,rfl,TK,(by rw [HLN.out];exact(PthDrawn.nil t).snoc (by simp) PDA),by omega,hMy,hka,hkl,Bg hpo (Ae _),hyc,hyx⟩
 have hqa:(q == 0)=false:=by rw [beq_eq_false_iff_ne];exact hq0
 have hqb:(q == 1)=false:=by rw [beq_eq_false_iff_ne];exact hq1
 have hqc:(q == 2)=false:=by rw [beq_eq_false_iff_ne];exact hq2
 go_wp2_with fail
 go_loopg [9] 6 (fun gk i wr=>∃ (k:Nat) (u d:Seg) (vu vd:Value),gk+k=6∧i=.int .i64 k∧SegDrawn t 2 u∧SegDrawn t 2 d∧PaSt (paS w.heap.size b5 b6 b8) g cv cd w b4 b5 b6 b7 b8 (.slice o1 t.ases.length c1) (.slice o2 t.links.length c2) vu vd (.slice o_c c.hops.length c_c) (.slice none 0 0) t u d c wr)
 case atStart=>exact⟨0,u,d,_,_,rfl,rfl,SDu,SDd,P⟩
 case round=>
  clear P SDu SDd hqa hqb hqc hq0 hq1 hq2;obtain⟨k,u,d,vu,vd,hgk,rfl,SDu,SDd,P⟩:=hrel;have HGK:=Ac hgk;have hk6:k≤6:=by omega
  clear hgk;have hlu:=SDu.len;have hld:=SDd.len;have hlc:=SDc.len;obtain⟨o_u,c_u,rfl,_⟩:=P.ku.rd.shape;obtain⟨o_d,c_d,rfl,_⟩:=P.kd.rd.shape
  by_cases hk:(k:Int)<6
  ·
   have hc0:c.hops.length=0∨0<c.hops.length:=by omega
   rcases hc0 with hc0 | hc0
   ·
    have hc1:decide ((0:Int)<(c.hops.length:Int))=false:=decide_eq_false (by omega);have cp7:=blk3 P.p7;replace P:=P.open_
    obtain⟨M,hM⟩:∃ M,M=wr.heap.size:=⟨_,rfl⟩
    rw [← hM] at P;have SM:∀ b,M≤b→(paS w.heap.size b5 b6 b8 b∨M≤b):=fun b h=>.inr h
    have hM2:b8<M:=by rw [hM];exact blk_lt P.p8
    have hMs:M≤wr.heap.size:=by omega
    have OW:Part.own.own (rng M wr.heap.size) wr (.slice none 0 0) []:=Own.mono _ (Part.own.nil _) (fun _ h=>h.elim);clear hM;have cp5:=blk3 P.p5
    go_upto_if 107 with (fail)
    clear cp5;clear hc0 hc1
    go_cut [] (fun wx=>∃ (M:Nat) (vp:Value) (l:List Part),b8<M∧M≤wx.heap.size∧l.length≤1∧PthDrawn t ⟨l⟩∧Part.own.own (rng M wx.heap.size) wx vp l∧PaSt (fun b=>paS w.heap.size b5 b6 b8 b∨M≤b) g cv cd w b4 b5 b6 b7 b8 (.slice o1 t.ases.length c1) (.slice o2 t.links.length c2) (.slice o_u u.hops.length c_u) (.slice o_d d.hops.length c_d) (.slice o_c c.hops.length c_c) vp t u d c wx)
    case first=>
     have hl0:u.hops.length=0∨0<u.hops.length:=by omega
     rcases hl0 with hl0 | hl0
     ·
      have hl1:decide ((0:Int)<(u.hops.length:Int))=false:=decide_eq_false (by omega)
      go_wp2_with fail
      go_meet
      exact⟨M,_,[],hM2,hMs,by simp,PthDrawn.nil t,OW,P⟩
     have hl1:decide ((0:Int)<(u.hops.length:Int))=true:=decide_eq_true (by omega)
     go_upto_region 25 with (fail)
     clear hl1;replace P:=P.ext ((Ab wr).drew);replace OW:=Aj OW ((Ab wr).drew);have hMd:M≤wr.drew.heap.size:=hMs;clear hMs;refine Ax (.blk [0,1,2] (.one 3 (.one 4 (.one 5 (.blk [6] (.one 7 .done)))))) [5,7] (by kernel_rfl) (by kernel_rfl) ?_;generalize wr.drew=wq at P OW hMd ⊢
     have hMs:=hMd;clear hMd;replace OW:=Bg OW (Ae _);have cp8:=blk1 P.p8;have cp5:=blk3 P.p5;refine blkStep (fun K HK=>?_);simp only [PK]
     go_wp2_with fail
     refine HK.out _ _ ?_;clear HK K;clear cp8 cp5;have hls:=SDu.len;refine oneStep (fun K HK=>?_);simp only [PK]
     go_wp2_with fail
     refine(s_MakePart u _ 1 (0:Int) _ P.ku.rd (by omega)).mono ?_;rintro e wA ⟨uA,rfl,oA,hzA⟩
     obtain⟨pA,hpA⟩:∃ pA,pA=makePart u 1 (0:Nat):=⟨_,rfl⟩
     have hpA2:makePart u 1 0=pA:=hpA.symm;rw [hpA2] at oA ⊢
     have PDA:PartDrawn t pA:=by rw [hpA];exact makePart_drawn SDu (by omega) hl0
     clear hpA2 hpA;obtain⟨o_p,c_p,rfl,_⟩:=(Bb (hf:=Ao) oA).shape;replace P:=P.ext hzA
     go_wp2_with fail
     refine HK.out _ _ hzA ?_;clear HK K;have hxB:Ext wq (wA.alloc (.cells #[.int .i64 pA.kind,.int .i64 pA.ts,.int .i64 pA.beta,.slice o_p pA.hops.length c_p] 99)):=hzA.alloc _;have P2:=P.ext ((Ab wA).alloc (.cells #[.int .i64 pA.kind,.int .i64 pA.ts,.int .i64 pA.beta,.slice o_p pA.hops.length c_p] 99));refine oneStep (fun K HK=>?_);simp only [PK]
     go_wp2_with fail
     refine HK.out _ _ ((Ab _).alloc _) ?_;clear HK K;refine badStep (by kernel_rfl) (fun K HK=>?_);simp only [PK];refine appG (w0:=wq) (c:=Part.c) (hc:=Part.clen) (sub:=(·.hops)) (I:=Own.flat Hop.f 5 Ao 103) (S:=rng M wq.heap.size) EP rfl _ _ rfl pA (.slice o_p pA.hops.length c_p) (rng wq.heap.size wA.heap.size) (part_oneC _ _ _ _) rfl OW hxB (Aj (O:=Own.flat Hop.f 5 Ao 103) (Own.ofF oA) ((Ab wA).alloc _)) (fun q hq=>⟨hq.1,by have h1:=hq.2;simp;omega⟩) rfl (by exact Au (Part.c pA (.slice o_p pA.hops.length c_p)) (blk_new wA _)) (by first | omega | simp) (by first | (unfold maxLen;omega) | simp [maxLen]) ?_;intro v' w' ho' hg' hvS;have hxg:Chg (fun b=>b=b8∨M≤b) (wA.alloc (.cells #[.int .i64 pA.kind,.int .i64 pA.ts,.int .i64 pA.beta,.slice o_p pA.hops.length c_p] 99)) w':=Bn hg' (fun k hk=>.inr (hvS k hk).1);have p8n:=hg'.block b8 (Ak (blk_lt P2.p8) (Ae _)) (fun e=>by have h1:=(hvS b8 e.symm).1;omega);rw [P2.p8] at p8n;have hsg:=hg'.size
     obtain⟨ln,hln⟩:∃ ln,ln=[] ++ [pA]:=⟨_,rfl⟩
     rw [← hln] at ho';have HLN:=Ac hln;clear hln
     have OW2 : Part.own.own (rng M w'.heap.size) w' v' ln := Own.mono _ ho' (fun q hq => by
      have hzs := hzA.size
      rcases hq with h1 | h1
      ·
       exact ⟨h1.1, by have h2 := h1.2; simp at hsg; omega⟩
      exact ⟨by have h2 := h1.1; omega, h1.2⟩)
     clear ho' oA hvS;obtain⟨o',c',rfl,_⟩:=(Bs OW2).shape;obtain⟨wF,hwF,hbF,hcF⟩:=one_set p8n 0 (.slice o' ln.length c');simp only [List.setIfInBounds_toArray,List.set_cons_zero] at hbF;have HWF:=Ac hwF;have hszF:wF.heap.size=w'.heap.size:=by rw [hwF];simp
     have hMF:M≤wF.heap.size:=by have h1:=hzA.size;simp at hsg;omega
     clear hwF;have c8:=blk1 p8n;have f8:=fr_of p8n 0
     go_wp2_with fail
     refine HK.out _ _ ?_;clear HK K;refine blkStep (fun K HK=>?_);simp only [PK]
     go_wp2_with fail
     refine HK.out _ _ ?_;clear HK K;refine badStep (by kernel_rfl) (fun K HK=>?_);simp only [PK]
     go_wp2_with fail
     refine HK.out _ _ ?_;clear HK K;rw [← HWF.out];clear HWF c8 f8 p8n hg';replace P:=P2.grow hM2 SM (hxg.trans (hcF.mono (fun b h=>.inl h))) hbF;have OW3:Part.own.own (rng M wF.heap.size) wF (.slice o' ln.length c') ln:=Bg (Af OW2 hcF (.inl (by omega))) (Ae _);clear P2 hxg hbF hcF OW OW2 hxB hzA;refine Ap (by kernel_rfl) ?_
     go_wp2_with fail
     go_meet
     exact⟨M,_,ln,hM2,hMF,by rw [HLN.out];simp,by rw [HLN.out];exact(PthDrawn.nil t).snoc (by simp) PDA,OW3,P⟩
    case rest=>
     clear OW P hMs hM2 SM M;obtain⟨M,vp,l1,hM2,hMs,hln1,PD,OW,P⟩:=hcut
     obtain⟨w1z,hwz⟩:∃ wz:World,wz=wc:=⟨_,rfl⟩
     subst hwz;have SM:∀ b,M≤b→(paS w.heap.size b5 b6 b8 b∨M≤b):=fun b h=>.inr h
     obtain⟨o_l1,c_l1,rfl,_⟩:=(Bs OW).shape;have cp7:=blk3 P.p7
     go_upto_if 118 with (fail)
     clear cp7
     go_cut [] (fun wx=>∃ (M:Nat) (vp:Value) (l:List Part),b8<M∧M≤wx.heap.size∧l.length≤2∧PthDrawn t ⟨l⟩∧Part.own.own (rng M wx.heap.size) wx vp l∧PaSt (fun b=>paS w.heap.size b5 b6 b8 b∨M≤b) g cv cd w b4 b5 b6 b7 b8 (.slice o1 t.ases.length c1) (.slice o2 t.links.length c2) (.slice o_u u.hops.length c_u) (.slice o_d d.hops.length c_d) (.slice o_c c.hops.length c_c) vp t u d c wx)
     case first=>
      have hl0:c.hops.length=0∨0<c.hops.length:=by omega
      rcases hl0 with hl0 | hl0
      ·
       have hl1:decide ((0:Int)<(c.hops.length:Int))=false:=decide_eq_false (by omega)
       go_wp2_with fail
       go_meet
       exact⟨M,_,l1,hM2,hMs,by omega,PD,OW,P⟩
      have hl1:decide ((0:Int)<(c.hops.length:Int))=true:=decide_eq_true (by omega)
      go_upto_region 27 with (fail)
      clear hl1;replace P:=P.ext ((Ab w1z).drew);replace OW:=Aj OW ((Ab w1z).drew);have hMd:M≤w1z.drew.heap.size:=hMs;clear hMs;refine Ax (.blk [0,1,2] (.one 3 (.one 4 (.one 5 (.blk [6] (.one 7 .done)))))) [5,7] (by kernel_rfl) (by kernel_rfl) ?_;generalize w1z.drew=wq at P OW hMd ⊢
      have hMs:=hMd;clear hMd;replace OW:=Bg OW (Ae _);have cp8:=blk1 P.p8;have cp7:=blk3 P.p7;refine blkStep (fun K HK=>?_);simp only [PK]
      go_wp2_with fail
      refine HK.out _ _ ?_;clear HK K;clear cp8 cp7;have hls:=SDc.len;refine oneStep (fun K HK=>?_);simp only [PK]
      go_wp2_with fail
      refine(s_MakePart c _ 2 (0:Int) _ P.kc.rd (by omega)).mono ?_;rintro e wA ⟨uA,rfl,oA,hzA⟩
      obtain⟨pA,hpA⟩:∃ pA,pA=makePart c 2 (0:Nat):=⟨_,rfl⟩
      have hpA2:makePart c 2 0=pA:=hpA.symm;rw [hpA2] at oA ⊢
      have PDA:PartDrawn t pA:=by rw [hpA];exact makePart_drawn SDc (by omega) hl0
      clear hpA2 hpA;obtain⟨o_p,c_p,rfl,_⟩:=(Bb (hf:=Ao) oA).shape;replace P:=P.ext hzA
      go_wp2_with fail
      refine HK.out _ _ hzA ?_;clear HK K;have hxB:Ext wq (wA.alloc (.cells #[.int .i64 pA.kind,.int .i64 pA.ts,.int .i64 pA.beta,.slice o_p pA.hops.length c_p] 99)):=hzA.alloc _;have P2:=P.ext ((Ab wA).alloc (.cells #[.int .i64 pA.kind,.int .i64 pA.ts,.int .i64 pA.beta,.slice o_p pA.hops.length c_p] 99));refine oneStep (fun K HK=>?_);simp only [PK]
      go_wp2_with fail
      refine HK.out _ _ ((Ab _).alloc _) ?_;clear HK K;refine badStep (by kernel_rfl) (fun K HK=>?_);simp only [PK];refine appG (w0:=wq) (c:=Part.c) (hc:=Part.clen) (sub:=(·.hops)) (I:=Own.flat Hop.f 5 Ao 103) (S:=rng M wq.heap.size) EP rfl _ _ rfl pA (.slice o_p pA.hops.length c_p) (rng wq.heap.size wA.heap.size) (part_oneC _ _ _ _) rfl OW hxB (Aj (O:=Own.flat Hop.f 5 Ao 103) (Own.ofF oA) ((Ab wA).alloc _)) (fun q hq=>⟨hq.1,by have h1:=hq.2;simp;omega⟩) rfl (by exact Au (Part.c pA (.slice o_p pA.hops.length c_p)) (blk_new wA _)) (by first | omega | simp) (by first | (unfold maxLen;omega) | simp [maxLen]) ?_;intro v' w' ho' hg' hvS;have hxg:Chg (fun b=>b=b8∨M≤b) (wA.alloc (.cells #[.int .i64 pA.kind,.int .i64 pA.ts,.int .i64 pA.beta,.slice o_p pA.hops.length c_p] 99)) w':=Bn hg' (fun k hk=>.inr (hvS k hk).1);have p8n:=hg'.block b8 (Ak (blk_lt P2.p8) (Ae _)) (fun e=>by have h1:=(hvS b8 e.symm).1;omega);rw [P2.p8] at p8n;have hsg:=hg'.size
      obtain⟨ln,hln⟩:∃ ln,ln=l1 ++ [pA]:=⟨_,rfl⟩
      rw [← hln] at ho';have HLN:=Ac hln;clear hln
      have OW2 : Part.own.own (rng M w'.heap.size) w' v' ln := Own.mono _ ho' (fun q hq => by
       have hzs := hzA.size
       rcases hq with h1 | h1
       ·
        exact ⟨h1.1, by have h2 := h1.2; simp at hsg; omega⟩
       exact ⟨by have h2 := h1.1; omega, h1.2⟩)
      clear ho' oA hvS;obtain⟨o',c',rfl,_⟩:=(Bs OW2).shape;obtain⟨wF,hwF,hbF,hcF⟩:=one_set p8n 0 (.slice o' ln.length c');simp only [List.setIfInBounds_toArray,List.set_cons_zero] at hbF;have HWF:=Ac hwF;have hszF:wF.heap.size=w'.heap.size:=by rw [hwF];simp
      have hMF:M≤wF.heap.size:=by have h1:=hzA.size;simp at hsg;omega
      clear hwF;have c8:=blk1 p8n;have f8:=fr_of p8n 0
      go_wp2_with fail
      refine HK.out _ _ ?_;clear HK K;refine blkStep (fun K HK=>?_);simp only [PK]
      go_wp2_with fail
      refine HK.out _ _ ?_;clear HK K;refine badStep (by kernel_rfl) (fun K HK=>?_);simp only [PK]
      go_wp2_with fail
      refine HK.out _ _ ?_;clear HK K;rw [← HWF.out];clear HWF c8 f8 p8n hg';replace P:=P2.grow hM2 SM (hxg.trans (hcF.mono (fun b h=>.inl h))) hbF;have OW3:Part.own.own (rng M wF.heap.size) wF (.slice o' ln.length c') ln:=Bg (Af OW2 hcF (.inl (by omega))) (Ae _);clear P2 hxg hbF hcF OW OW2 hxB hzA;refine Ap (by kernel_rfl) ?_
      go_wp2_with fail
      go_meet
      exact⟨M,_,ln,hM2,hMF,by rw [HLN.out];simp;omega,by rw [HLN.out];exact PD.snoc (by omega) PDA,OW3,P⟩
     case rest=>
      clear OW P hMs hM2 SM M;obtain⟨M,vp,l2,hM2,hMs,hln2,PD,OW,P⟩:=hcut
      obtain⟨w2z,hwz⟩:∃ wz:World,wz=wc:=⟨_,rfl⟩
      subst hwz;have SM:∀ b,M≤b→(paS w.heap.size b5 b6 b8 b∨M≤b):=fun b h=>.inr h
      obtain⟨o_l2,c_l2,rfl,_⟩:=(Bs OW).shape
      skip
      have cp6:=blk3 P.p6
      go_upto_if 129 with (fail)
      clear cp6
      go_cut [] (fun wx=>∃ (M:Nat) (vp:Value) (l:List Part),b8<M∧M≤wx.heap.size∧l.length≤3∧PthDrawn t ⟨l⟩∧Part.own.own (rng M wx.heap.size) wx vp l∧PaSt (fun b=>paS w.heap.size b5 b6 b8 b∨M≤b) g cv cd w b4 b5 b6 b7 b8 (.slice o1 t.ases.length c1) (.slice o2 t.links.length c2) (.slice o_u u.hops.length c_u) (.slice o_d d.hops.length c_d) (.slice o_c c.hops.length c_c) vp t u d c wx)
      case first=>
       have hl0:d.hops.length=0∨0<d.hops.length:=by omega
       rcases hl0 with hl0 | hl0
       ·
        have hl1:decide ((0:Int)<(d.hops.length:Int))=false:=decide_eq_false (by omega)
        go_wp2_with fail
        go_meet
        exact⟨M,_,l2,hM2,hMs,by omega,PD,OW,P⟩
       have hl1:decide ((0:Int)<(d.hops.length:Int))=true:=decide_eq_true (by omega)
       go_upto_region 29 with (fail)
       clear hl1;replace P:=P.ext ((Ab w2z).drew);replace OW:=Aj OW ((Ab w2z).drew);have hMd:M≤w2z.drew.heap.size:=hMs;clear hMs;refine Ax (.blk [0,1,2] (.one 3 (.one 4 (.one 5 (.blk [6] (.one 7 .done)))))) [5,7] (by kernel_rfl) (by kernel_rfl) ?_;generalize w2z.drew=wq at P OW hMd ⊢
       have hMs:=hMd;clear hMd;replace OW:=Bg OW (Ae _);have cp8:=blk1 P.p8;have cp6:=blk3 P.p6;refine blkStep (fun K HK=>?_);simp only [PK]
       go_wp2_with fail
       refine HK.out _ _ ?_;clear HK K;clear cp8 cp6;have hls:=SDd.len;refine oneStep (fun K HK=>?_);simp only [PK]
       go_wp2_with fail
       refine(s_MakePart d _ 4 (0:Int) _ P.kd.rd (by omega)).mono ?_;rintro e wA ⟨uA,rfl,oA,hzA⟩
       obtain⟨pA,hpA⟩:∃ pA,pA=makePart d 4 (0:Nat):=⟨_,rfl⟩
       have hpA2:makePart d 4 0=pA:=hpA.symm;rw [hpA2] at oA ⊢
       have PDA:PartDrawn t pA:=by rw [hpA];exact makePart_drawn SDd (by omega) hl0
       clear hpA2 hpA;obtain⟨o_p,c_p,rfl,_⟩:=(Bb (hf:=Ao) oA).shape;replace P:=P.ext hzA
       go_wp2_with fail
       refine HK.out _ _ hzA ?_;clear HK K;have hxB:Ext wq (wA.alloc (.cells #[.int .i64 pA.kind,.int .i64 pA.ts,.int .i64 pA.beta,.slice o_p pA.hops.length c_p] 99)):=hzA.alloc _;have P2:=P.ext ((Ab wA).alloc (.cells #[.int .i64 pA.kind,.int .i64 pA.ts,.int .i64 pA.beta,.slice o_p pA.hops.length c_p] 99));refine oneStep (fun K HK=>?_);simp only [PK]
       go_wp2_with fail
       refine HK.out _ _ ((Ab _).alloc _) ?_;clear HK K;refine badStep (by kernel_rfl) (fun K HK=>?_);simp only [PK];refine appG (w0:=wq) (c:=Part.c) (hc:=Part.clen) (sub:=(·.hops)) (I:=Own.flat Hop.f 5 Ao 103) (S:=rng M wq.heap.size) EP rfl _ _ rfl pA (.slice o_p pA.hops.length c_p) (rng wq.heap.size wA.heap.size) (part_oneC _ _ _ _) rfl OW hxB (Aj (O:=Own.flat Hop.f 5 Ao 103) (Own.ofF oA) ((Ab wA).alloc _)) (fun q hq=>⟨hq.1,by have h1:=hq.2;simp;omega⟩) rfl (by exact Au (Part.c pA (.slice o_p pA.hops.length c_p)) (blk_new wA _)) (by first | omega | simp) (by first | (unfold maxLen;omega) | simp [maxLen]) ?_;intro v' w' ho' hg' hvS;have hxg:Chg (fun b=>b=b8∨M≤b) (wA.alloc (.cells #[.int .i64 pA.kind,.int .i64 pA.ts,.int .i64 pA.beta,.slice o_p pA.hops.length c_p] 99)) w':=Bn hg' (fun k hk=>.inr (hvS k hk).1);have p8n:=hg'.block b8 (Ak (blk_lt P2.p8) (Ae _)) (fun e=>by have h1:=(hvS b8 e.symm).1;omega);rw [P2.p8] at p8n;have hsg:=hg'.size
       obtain⟨ln,hln⟩:∃ ln,ln=l2 ++ [pA]:=⟨_,rfl⟩
       rw [← hln] at ho';have HLN:=Ac hln;clear hln
       have OW2 : Part.own.own (rng M w'.heap.size) w' v' ln := Own.mono _ ho' (fun q hq => by
        have hzs := hzA.size
        rcases hq with h1 | h1
        ·
         exact ⟨h1.1, by have h2 := h1.2; simp at hsg; omega⟩
        exact ⟨by have h2 := h1.1; omega, h1.2⟩)
       clear ho' oA hvS;obtain⟨o',c',rfl,_⟩:=(Bs OW2).shape;obtain⟨wF,hwF,hbF,hcF⟩:=one_set p8n 0 (.slice o' ln.length c');simp only [List.setIfInBounds_toArray,List.set_cons_zero] at hbF;have HWF:=Ac hwF;have hszF:wF.heap.size=w'.heap.size:=by rw [hwF];simp
       have hMF:M≤wF.heap.size:=by have h1:=hzA.size;simp at hsg;omega
       clear hwF;have c8:=blk1 p8n;have f8:=fr_of p8n 0
       go_wp2_with fail
       refine HK.out _ _ ?_;clear HK K;refine blkStep (fun K HK=>?_);simp only [PK]
       go_wp2_with fail
       refine HK.out _ _ ?_;clear HK K;refine badStep (by kernel_rfl) (fun K HK=>?_);simp only [PK]
       go_wp2_with fail
       refine HK.out _ _ ?_;clear HK K;rw [← HWF.out];clear HWF c8 f8 p8n hg';replace P:=P2.grow hM2 SM (hxg.trans (hcF.mono (fun b h=>.inl h))) hbF;have OW3:Part.own.own (rng M wF.heap.size) wF (.slice o' ln.length c') ln:=Bg (Af OW2 hcF (.inl (by omega))) (Ae _);clear P2 hxg hbF hcF OW OW2 hxB hzA;refine Ap (by kernel_rfl) ?_
       go_wp2_with fail
       go_meet
       exact⟨M,_,ln,hM2,hMF,by rw [HLN.out];simp;omega,by rw [HLN.out];exact PD.snoc (by omega) PDA,OW3,P⟩
      case rest=>
       clear OW P hMs hM2 SM M;obtain⟨M,vp,l3,hM2,hMs,hln3,PD,OW,P⟩:=hcut
       obtain⟨w3z,hwz⟩:∃ wz:World,wz=wc:=⟨_,rfl⟩
       subst hwz;have SM:∀ b,M≤b→(paS w.heap.size b5 b6 b8 b∨M≤b):=fun b h=>.inr h
       obtain⟨o_l3,c_l3,rfl,_⟩:=(Bs OW).shape
       skip
       go_upto_region 30 with (fail)
       have hMz:M≤w3z.drew.heap.size:=hMs;refine Bl (at1 w.heap.size) [([0,1],2)] [] [3] (by kernel_rfl) (by kernel_rfl) (by kernel_rfl) ?_;have e4:=P.o4;have e5:=P.o5;have e6:=P.o6;have e7:=P.o7;have e8:=P.o8;have elt:=P.c0.lt;have ch4:=blk2 P.p4;have q0:=Cj (S:=at1 w.heap.size) ch4 (by first | omega | (unfold at1;omega) | (simp only;omega));clear ch4;have ch8:=blk1 P.p8;have q2:=Aw (S:=at1 w.heap.size) (ch8) (by unfold at1;simp only;omega);clear ch8;clear e4 e5 e6 e7 e8 elt;simp only [wpBlocksX,pickOps,PK];have hch:Chg (at1 w.heap.size) w3z w3z.drew:=Ar (Ab w3z).drew;replace P:=P.ext ((Ab w3z).drew);replace OW:=Aj OW ((Ab w3z).drew)
       obtain⟨wt,hnw⟩:∃ wn,wn=w3z.drew:=⟨_,rfl⟩
       rw [← hnw] at P hch OW hMz ⊢
       clear hnw;have hMm:=hMz;clear hMz
       repeat (first | go_big_quiet_step (fail) | quiet_step (fail))
       refine wpQuiet_nil ?_;have hM3:w.heap.size+1<M:=by have h1:=P.o4;have h2:=P.o5;have h3:=P.o6;have h4:=P.o7;have h5:=P.o8;omega
       obtain⟨wx,wy,ex,ey,hx3,hy2,hy3,hyc,hyx,hka,hkl,hpo,hcx,hMy⟩:=P.fin SM OW (by omega) hMm;have HEX:=Ac ex;have HEY:=Ac ey;have HX3:=Ac hx3;clear ex ey hx3;have cp2:=blk2 P.p2;have f20:=fr_of P.p2 0;have f21:=fr_of P.p2 1
       go_wp2_with fail
       rw [← HEX.out];clear HEX cp2 f20 f21;refine⟨⟨⟨_,hch.trans hcx⟩,rfl⟩,?_⟩
       repeat (first | go_big_quiet_step (fail) | quiet_step (fail))
       refine wpQuiet_nil ?_;have cq3:=blk1 HX3.out;have f30:=fr_of HX3.out 0
       go_wp2_with fail
       rw [← HEY.out];clear HEY cq3 f30;clear q0 q2;refine NoPanic.normal ?_;have cq2:=blk2 hy2;have cq3:=blk1 hy3;have hsz:=hyx.size
       go_wp2_with fail
       refine bodyPost_ret (by simp [results,Tryz.results35,go_sem,cq2,cq3];rfl) rfl ?_;exact⟨_,_,_,t,⟨l3⟩,M,rfl,TK,PD,by omega,hMy,hka,hkl,Bg hpo (Ae _),hyc,hyx⟩
   have hc1:decide ((0:Int)<(c.hops.length:Int))=true:=decide_eq_true (by omega);have cp5:=blk3 P.p5;have cp7:=blk3 P.p7
   go_upto_region 20 with (fail)
   clear cp5 cp7
   go_cut [86] (fun x wx=>∃ xb:Bool,x=.bool xb∧PaSt (paS w.heap.size b5 b6 b8) g cv cd w b4 b5 b6 b7 b8 (.slice o1 t.ases.length c1) (.slice o2 t.links.length c2) (.slice o_u u.hops.length c_u) (.slice o_d d.hops.length c_d) (.slice o_c c.hops.length c_c) (.slice none 0 0) t u d c wx)
   case first=>
    replace P:=P.ext ((Ab wr).drew);have hl0:u.hops.length=0∨0<u.hops.length:=by omega
    rcases hl0 with hl0 | hl0
    ·
     have hl1:decide ((0:Int)<(u.hops.length:Int))=false:=decide_eq_false (by omega);refine Ax (.blk [0,1,2,3,4,5,7] (.one 6 (.one 8 (.blk [9,10] .done)))) [] (by kernel_rfl) (by kernel_rfl) ?_;generalize wr.drew=wq at P ⊢
     have cp5:=blk3 P.p5;have cp7:=blk3 P.p7;refine blkStep (fun K HK=>?_);simp only [PK]
     go_wp2_with fail
     refine HK.out _ _ ?_;clear HK K;clear cp5 cp7;refine oneStep (fun K HK=>?_);simp only [PK]
     go_wp2_with fail
     refine HK.out _ _ (Ab _) ?_;clear HK K;refine oneStep (fun K HK=>?_);simp only [PK]
     go_wp2_with fail
     refine HK.out _ _ (Ab _) ?_;clear HK K;refine blkStep (fun K HK=>?_);simp only [PK]
     go_wp2_with fail
     refine HK.out _ _ ?_;clear HK K;refine Ap (by kernel_rfl) ?_
     go_wp2_with fail
     go_meet
     exact⟨_,rfl,P⟩
    have hl1:decide ((0:Int)<(u.hops.length:Int))=true:=decide_eq_true (by omega);refine Ax (.blk [0,1,2,3,4,5,7] (.one 6 (.one 8 (.blk [9,10] .done)))) [] (by kernel_rfl) (by kernel_rfl) ?_;generalize wr.drew=wq at P ⊢
    have cp5:=blk3 P.p5;have cp7:=blk3 P.p7;refine blkStep (fun K HK=>?_);simp only [PK]
    go_wp2_with fail
    refine HK.out _ _ ?_;clear HK K;clear cp5 cp7;refine oneStep (fun K HK=>?_);simp only [PK]
    go_wp2_with fail
    refine(s_FirstASn u _ _ P.ku.rd).mono ?_;rintro e wA ⟨q1,rfl,_,hzA⟩;replace P:=P.ext hzA
    go_wp2_with fail
    refine HK.out _ _ hzA ?_;clear HK K hzA;refine oneStep (fun K HK=>?_);simp only [PK]
    go_wp2_with fail
    refine(s_FirstASn c _ _ P.kc.rd).mono ?_;rintro e wB ⟨q2,rfl,_,hzB⟩;replace P:=P.ext hzB
    go_wp2_with fail
    refine HK.out _ _ hzB ?_;clear HK K hzB;refine blkStep (fun K HK=>?_);simp only [PK]
    go_wp2_with fail
    refine HK.out _ _ ?_;clear HK K;refine Ap (by kernel_rfl) ?_
    go_wp2_with fail
    go_meet
    exact⟨_,rfl,P⟩
   case rest=>
    clear P;obtain⟨xb,rfl,P⟩:=hcut
    obtain⟨wz20,hwz⟩:∃ wz:World,wz=wc:=⟨_,rfl⟩
    subst hwz
    cases xb
    case false=>
     have cp6:=blk3 P.p6;have cp7:=blk3 P.p7
     go_upto_region 22 with (fail)
     clear cp6 cp7
     go_cut [100] (fun x wx=>∃ xb:Bool,x=.bool xb∧PaSt (paS w.heap.size b5 b6 b8) g cv cd w b4 b5 b6 b7 b8 (.slice o1 t.ases.length c1) (.slice o2 t.links.length c2) (.slice o_u u.hops.length c_u) (.slice o_d d.hops.length c_d) (.slice o_c c.hops.length c_c) (.slice none 0 0) t u d c wx)
     case first=>
      replace P:=P.ext ((Ab wz20).drew);have hl0:d.hops.length=0∨0<d.hops.length:=by omega
      rcases hl0 with hl0 | hl0
      ·
       have hl1:decide ((0:Int)<(d.hops.length:Int))=false:=decide_eq_false (by omega);refine Ax (.blk [0,1,2,3,4,5,7] (.one 6 (.one 8 (.blk [9,10] .done)))) [] (by kernel_rfl) (by kernel_rfl) ?_;generalize wz20.drew=wq at P ⊢
       have cp6:=blk3 P.p6;have cp7:=blk3 P.p7;refine blkStep (fun K HK=>?_);simp only [PK]
       go_wp2_with fail
       refine HK.out _ _ ?_;clear HK K;clear cp6 cp7;refine oneStep (fun K HK=>?_);simp only [PK]
       go_wp2_with fail
       refine HK.out _ _ (Ab _) ?_;clear HK K;refine oneStep (fun K HK=>?_);simp only [PK]
       go_wp2_with fail
       refine HK.out _ _ (Ab _) ?_;clear HK K;refine blkStep (fun K HK=>?_);simp only [PK]
       go_wp2_with fail
       refine HK.out _ _ ?_;clear HK K;refine Ap (by kernel_rfl) ?_
       go_wp2_with fail
       go_meet
       exact⟨_,rfl,P⟩
      have hl1:decide ((0:Int)<(d.hops.length:Int))=true:=decide_eq_true (by omega);refine Ax (.blk [0,1,2,3,4,5,7] (.one 6 (.one 8 (.blk [9,10] .done)))) [] (by kernel_rfl) (by kernel_rfl) ?_;generalize wz20.drew=wq at P ⊢
      have cp6:=blk3 P.p6;have cp7:=blk3 P.p7;refine blkStep (fun K HK=>?_);simp only [PK]
      go_wp2_with fail
      refine HK.out _ _ ?_;clear HK K;clear cp6 cp7;refine oneStep (fun K HK=>?_);simp only [PK]
      go_wp2_with fail
      refine(s_FirstASn d _ _ P.kd.rd).mono ?_;rintro e wA ⟨q1,rfl,_,hzA⟩;replace P:=P.ext hzA
      go_wp2_with fail
      refine HK.out _ _ hzA ?_;clear HK K hzA;refine oneStep (fun K HK=>?_);simp only [PK]
      go_wp2_with fail
      refine(s_LastASn c _ _ P.kc.rd).mono ?_;rintro e wB ⟨q2,rfl,_,hzB⟩;replace P:=P.ext hzB
      go_wp2_with fail
      refine HK.out _ _ hzB ?_;clear HK K hzB;refine blkStep (fun K HK=>?_);simp only [PK]
      go_wp2_with fail
      refine HK.out _ _ ?_;clear HK K;refine Ap (by kernel_rfl) ?_
      go_wp2_with fail
      go_meet
      exact⟨_,rfl,P⟩
     case rest=>
      clear P;obtain⟨xb,rfl,P⟩:=hcut
      obtain⟨wz22,hwz⟩:∃ wz:World,wz=wc:=⟨_,rfl⟩
      subst hwz
      cases xb
      case false=>
       go_wp2_with fail
       go_roundg (gk - 1)
       case measure=>have h1:=HGK.out;omega
       case rel=>exact⟨k+1,u,d,_,_,by have h1:=HGK.out;omega,congrArg (Value.int .i64) (by first | omega | (unfold wrap64;omega)),SDu,SDd,P⟩
      case true=>
       have cp4:=blk2 P.p4
       go_wp2_with fail
       clear cp4;have hbz:=P.x.size;refine(s_l9Grow g t (.slice o1 t.ases.length c1) (.slice o2 t.links.length c2) 2 _ _ _ P.cu TK (P.ka.st P.sg) (P.kl.st P.sg)).mono ?_;rintro e wg22 ⟨vn,dn,rfl,SDdn,RN,hcq,hzq⟩
       have hltS:∀ b,paS w.heap.size b5 b6 b8 b→b<wz22.heap.size∨wg22.heap.size≤b:=fun b hb=>by
        have h2:=blk_lt P.p3;have h5:=blk_lt P.p5;have h6:=blk_lt P.p6;have h8:=blk_lt P.p8
        rcases hb with hb | hb | hb | hb <;> omega
       have KN:KS (paS w.heap.size b5 b6 b8) Hop.rep wg22 vn dn.hops:=KS.ofF (hf:=Ao) RN hltS;replace P:=P.draw hcq hzq;clear hcq hzq RN hltS hbz;obtain⟨o_dn,c_dn,rfl,_⟩:=KN.rd.shape;have hldn:=SDdn.len;obtain⟨wS22,hwS,hbS,hcS⟩:=three_set P.p6 (.int .i64 dn.ts) (.int .i64 dn.beta) (.slice o_dn dn.hops.length c_dn);have HWS:=Ac hwS;clear hwS;have cp6:=blk3 P.p6;have ff0:=fr3 P.p6
       go_wp2_with fail
       rw [← HWS.out];clear HWS cp6 ff0;replace P:=P.set6 hcS hbS KN;clear hcS hbS KN
       go_wp2_with fail
       go_roundg (gk - 1)
       case measure=>have h1:=HGK.out;omega
       case rel=>exact⟨k+1,u,dn,_,_,by have h1:=HGK.out;omega,congrArg (Value.int .i64) (by first | omega | (unfold wrap64;omega)),SDu,SDdn,P⟩
    case true=>
     have cp4:=blk2 P.p4
     go_wp2_with fail
     clear cp4;have hbz:=P.x.size;refine(s_l9Grow g t (.slice o1 t.ases.length c1) (.slice o2 t.links.length c2) 2 _ _ _ P.cu TK (P.ka.st P.sg) (P.kl.st P.sg)).mono ?_;rintro e wg20 ⟨vn,un,rfl,SDun,RN,hcq,hzq⟩
     have hltS:∀ b,paS w.heap.size b5 b6 b8 b→b<wz20.heap.size∨wg20.heap.size≤b:=fun b hb=>by
      have h2:=blk_lt P.p3;have h5:=blk_lt P.p5;have h6:=blk_lt P.p6;have h8:=blk_lt P.p8
      rcases hb with hb | hb | hb | hb <;> omega
     have KN:KS (paS w.heap.size b5 b6 b8) Hop.rep wg20 vn un.hops:=KS.ofF (hf:=Ao) RN hltS;replace P:=P.draw hcq hzq;clear hcq hzq RN hltS hbz;obtain⟨o_un,c_un,rfl,_⟩:=KN.rd.shape;have hlun:=SDun.len;obtain⟨wS20,hwS,hbS,hcS⟩:=three_set P.p5 (.int .i64 un.ts) (.int .i64 un.beta) (.slice o_un un.hops.length c_un);have HWS:=Ac hwS;clear hwS;have cp5:=blk3 P.p5;have ff0:=fr3 P.p5;have cp6:=blk3 P.p6;have cp7:=blk3 P.p7
     go_upto_region 22 with (fail)
     clear cp6 cp7;rw [← HWS.out];clear HWS cp5 ff0;replace P:=P.set5 hcS hbS KN;clear hcS hbS KN
     go_cut [100] (fun x wx=>∃ xb:Bool,x=.bool xb∧PaSt (paS w.heap.size b5 b6 b8) g cv cd w b4 b5 b6 b7 b8 (.slice o1 t.ases.length c1) (.slice o2 t.links.length c2) (.slice o_un un.hops.length c_un) (.slice o_d d.hops.length c_d) (.slice o_c c.hops.length c_c) (.slice none 0 0) t un d c wx)
     case first=>
      replace P:=P.ext ((Ab wS20).drew);have hl0:d.hops.length=0∨0<d.hops.length:=by omega
      rcases hl0 with hl0 | hl0
      ·
       have hl1:decide ((0:Int)<(d.hops.length:Int))=false:=decide_eq_false (by omega);refine Ax (.blk [0,1,2,3,4,5,7] (.one 6 (.one 8 (.blk [9,10] .done)))) [] (by kernel_rfl) (by kernel_rfl) ?_;generalize wS20.drew=wq at P ⊢
       have cp6:=blk3 P.p6;have cp7:=blk3 P.p7;refine blkStep (fun K HK=>?_);simp only [PK]
       go_wp2_with fail
       refine HK.out _ _ ?_;clear HK K;clear cp6 cp7;refine oneStep (fun K HK=>?_);simp only [PK]
       go_wp2_with fail
       refine HK.out _ _ (Ab _) ?_;clear HK K;refine oneStep (fun K HK=>?_);simp only [PK]
       go_wp2_with fail
       refine HK.out _ _ (Ab _) ?_;clear HK K;refine blkStep (fun K HK=>?_);simp only [PK]
       go_wp2_with fail
       refine HK.out _ _ ?_;clear HK K;refine Ap (by kernel_rfl) ?_
       go_wp2_with fail
       go_meet
       exact⟨_,rfl,P⟩
      have hl1:decide ((0:Int)<(d.hops.length:Int))=true:=decide_eq_true (by omega);refine Ax (.blk [0,1,2,3,4,5,7] (.one 6 (.one 8 (.blk [9,10] .done)))) [] (by kernel_rfl) (by kernel_rfl) ?_;generalize wS20.drew=wq at P ⊢
      have cp6:=blk3 P.p6;have cp7:=blk3 P.p7;refine blkStep (fun K HK=>?_);simp only [PK]
      go_wp2_with fail
      refine HK.out _ _ ?_;clear HK K;clear cp6 cp7;refine oneStep (fun K HK=>?_);simp only [PK]
      go_wp2_with fail
      refine(s_FirstASn d _ _ P.kd.rd).mono ?_;rintro e wA ⟨q1,rfl,_,hzA⟩;replace P:=P.ext hzA
      go_wp2_with fail
      refine HK.out _ _ hzA ?_;clear HK K hzA;refine oneStep (fun K HK=>?_);simp only [PK]
      go_wp2_with fail
      refine(s_LastASn c _ _ P.kc.rd).mono ?_;rintro e wB ⟨q2,rfl,_,hzB⟩;replace P:=P.ext hzB
      go_wp2_with fail
      refine HK.out _ _ hzB ?_;clear HK K hzB;refine blkStep (fun K HK=>?_);simp only [PK]
      go_wp2_with fail
      refine HK.out _ _ ?_;clear HK K;refine Ap (by kernel_rfl) ?_
      go_wp2_with fail
      go_meet
      exact⟨_,rfl,P⟩
     case rest=>
      clear P;obtain⟨xb,rfl,P⟩:=hcut
      obtain⟨wz22,hwz⟩:∃ wz:World,wz=wc:=⟨_,rfl⟩
      subst hwz
      cases xb
      case false=>
       go_wp2_with fail
       go_roundg (gk - 1)
       case measure=>have h1:=HGK.out;omega
       case rel=>exact⟨k+1,un,d,_,_,by have h1:=HGK.out;omega,congrArg (Value.int .i64) (by first | omega | (unfold wrap64;omega)),SDun,SDd,P⟩
      case true=>
       have cp4:=blk2 P.p4
       go_wp2_with fail
       clear cp4;have hbz:=P.x.size;refine(s_l9Grow g t (.slice o1 t.ases.length c1) (.slice o2 t.links.length c2) 2 _ _ _ P.cu TK (P.ka.st P.sg) (P.kl.st P.sg)).mono ?_;rintro e wg22 ⟨vn,dn,rfl,SDdn,RN,hcq,hzq⟩
       have hltS:∀ b,paS w.heap.size b5 b6 b8 b→b<wz22.heap.size∨wg22.heap.size≤b:=fun b hb=>by
        have h2:=blk_lt P.p3;have h5:=blk_lt P.p5;have h6:=blk_lt P.p6;have h8:=blk_lt P.p8
        rcases hb with hb | hb | hb | hb <;> omega
       have KN:KS (paS w.heap.size b5 b6 b8) Hop.rep wg22 vn dn.hops:=KS.ofF (hf:=Ao) RN hltS;replace P:=P.draw hcq hzq;clear hcq hzq RN hltS hbz;obtain⟨o_dn,c_dn,rfl,_⟩:=KN.rd.shape;have hldn:=SDdn.len;obtain⟨wS22,hwS,hbS,hcS⟩:=three_set P.p6 (.int .i64 dn.ts) (.int .i64 dn.beta) (.slice o_dn dn.hops.length c_dn);have HWS:=Ac hwS;clear hwS;have cp6:=blk3 P.p6;have ff0:=fr3 P.p6
       go_wp2_with fail
       rw [← HWS.out];clear HWS cp6 ff0;replace P:=P.set6 hcS hbS KN;clear hcS hbS KN
       go_wp2_with fail
       go_roundg (gk - 1)
       case measure=>have h1:=HGK.out;omega
       case rel=>exact⟨k+1,un,dn,_,_,by have h1:=HGK.out;omega,congrArg (Value.int .i64) (by first | omega | (unfold wrap64;omega)),SDun,SDdn,P⟩
  have hk2:decide ((k:Int)<6)=false:=decide_eq_false hk;replace P:=P.open_
  obtain⟨M,hM⟩:∃ M,M=wr.heap.size:=⟨_,rfl⟩
  rw [← hM] at P;have SM:∀ b,M≤b→(paS w.heap.size b5 b6 b8 b∨M≤b):=fun b h=>.inr h
  have hM2:b8<M:=by rw [hM];exact blk_lt P.p8
  have hMs:M≤wr.heap.size:=by omega
  have OW:Part.own.own (rng M wr.heap.size) wr (.slice none 0 0) []:=Own.mono _ (Part.own.nil _) (fun _ h=>h.elim);clear hM;have cp5:=blk3 P.p5
  go_upto_if 107 with (fail)
  clear cp5
  go_cut [] (fun wx=>∃ (M:Nat) (vp:Value) (l:List Part),b8<M∧M≤wx.heap.size∧l.length≤1∧PthDrawn t ⟨l⟩∧Part.own.own (rng M wx.heap.size) wx vp l∧PaSt (fun b=>paS w.heap.size b5 b6 b8 b∨M≤b) g cv cd w b4 b5 b6 b7 b8 (.slice o1 t.ases.length c1) (.slice o2 t.links.length c2) (.slice o_u u.hops.length c_u) (.slice o_d d.hops.length c_d) (.slice o_c c.hops.length c_c) vp t u d c wx)
  case first=>
   have hl0:u.hops.length=0∨0<u.hops.length:=by omega
   rcases hl0 with hl0 | hl0
   ·
    have hl1:decide ((0:Int)<(u.hops.length:Int))=false:=decide_eq_false (by omega)
    go_wp2_with fail
    go_meet
    exact⟨M,_,[],hM2,hMs,by simp,PthDrawn.nil t,OW,P⟩
   have hl1:decide ((0:Int)<(u.hops.length:Int))=true:=decide_eq_true (by omega)
   go_upto_region 25 with (fail)
   clear hl1;replace P:=P.ext ((Ab wr).drew);replace OW:=Aj OW ((Ab wr).drew);have hMd:M≤wr.drew.heap.size:=hMs;clear hMs;refine Ax (.blk [0,1,2] (.one 3 (.one 4 (.one 5 (.blk [6] (.one 7 .done)))))) [5,7] (by kernel_rfl) (by kernel_rfl) ?_;generalize wr.drew=wq at P OW hMd ⊢
   have hMs:=hMd;clear hMd;replace OW:=Bg OW (Ae _);have cp8:=blk1 P.p8;have cp5:=blk3 P.p5;refine blkStep (fun K HK=>?_);simp only [PK]
   go_wp2_with fail
   refine HK.out _ _ ?_;clear HK K;clear cp8 cp5;have hls:=SDu.len;refine oneStep (fun K HK=>?_);simp only [PK]
   go_wp2_with fail
   refine(s_MakePart u _ 1 (0:Int) _ P.ku.rd (by omega)).mono ?_;rintro e wA ⟨uA,rfl,oA,hzA⟩
   obtain⟨pA,hpA⟩:∃ pA,pA=makePart u 1 (0:Nat):=⟨_,rfl⟩
   have hpA2:makePart u 1 0=pA:=hpA.symm;rw [hpA2] at oA ⊢
   have PDA:PartDrawn t pA:=by rw [hpA];exact makePart_drawn SDu (by omega) hl0
   clear hpA2 hpA;obtain⟨o_p,c_p,rfl,_⟩:=(Bb (hf:=Ao) oA).shape;replace P:=P.ext hzA
   go_wp2_with fail
   refine HK.out _ _ hzA ?_;clear HK K;have hxB:Ext wq (wA.alloc (.cells #[.int .i64 pA.kind,.int .i64 pA.ts,.int .i64 pA.beta,.slice o_p pA.hops.length c_p] 99)):=hzA.alloc _;have P2:=P.ext ((Ab wA).alloc (.cells #[.int .i64 pA.kind,.int .i64 pA.ts,.int .i64 pA.beta,.slice o_p pA.hops.length c_p] 99));refine oneStep (fun K HK=>?_);simp only [PK]
   go_wp2_with fail
   refine HK.out _ _ ((Ab _).alloc _) ?_;clear HK K;refine badStep (by kernel_rfl) (fun K HK=>?_);simp only [PK];refine appG (w0:=wq) (c:=Part.c) (hc:=Part.clen) (sub:=(·.hops)) (I:=Own.flat Hop.f 5 Ao 103) (S:=rng M wq.heap.size) EP rfl _ _ rfl pA (.slice o_p pA.hops.length c_p) (rng wq.heap.size wA.heap.size) (part_oneC _ _ _ _) rfl OW hxB (Aj (O:=Own.flat Hop.f 5 Ao 103) (Own.ofF oA) ((Ab wA).alloc _)) (fun q hq=>⟨hq.1,by have h1:=hq.2;simp;omega⟩) rfl (by exact Au (Part.c pA (.slice o_p pA.hops.length c_p)) (blk_new wA _)) (by first | omega | simp) (by first | (unfold maxLen;omega) | simp [maxLen]) ?_;intro v' w' ho' hg' hvS;have hxg:Chg (fun b=>b=b8∨M≤b) (wA.alloc (.cells #[.int .i64 pA.kind,.int .i64 pA.ts,.int .i64 pA.beta,.slice o_p pA.hops.length c_p] 99)) w':=Bn hg' (fun k hk=>.inr (hvS k hk).1);have p8n:=hg'.block b8 (Ak (blk_lt P2.p8) (Ae _)) (fun e=>by have h1:=(hvS b8 e.symm).1;omega);rw [P2.p8] at p8n;have hsg:=hg'.size
   obtain⟨ln,hln⟩:∃ ln,ln=[] ++ [pA]:=⟨_,rfl⟩
   rw [← hln] at ho';have HLN:=Ac hln;clear hln
   have OW2 : Part.own.own (rng M w'.heap.size) w' v' ln := Own.mono _ ho' (fun q hq => by
    have hzs := hzA.size
    rcases hq with h1 | h1
    ·
     exact ⟨h1.1, by have h2 := h1.2; simp at hsg; omega⟩
    exact ⟨by have h2 := h1.1; omega, h1.2⟩)
   clear ho' oA hvS;obtain⟨o',c',rfl,_⟩:=(Bs OW2).shape;obtain⟨wF,hwF,hbF,hcF⟩:=one_set p8n 0 (.slice o' ln.length c');simp only [List.setIfInBounds_toArray,List.set_cons_zero] at hbF;have HWF:=Ac hwF;have hszF:wF.heap.size=w'.heap.size:=by rw [hwF];simp
   have hMF:M≤wF.heap.size:=by have h1:=hzA.size;simp at hsg;omega
   clear hwF;have c8:=blk1 p8n;have f8:=fr_of p8n 0
   go_wp2_with fail
   refine HK.out _ _ ?_;clear HK K;refine blkStep (fun K HK=>?_);simp only [PK]
   go_wp2_with fail
   refine HK.out _ _ ?_;clear HK K;refine badStep (by kernel_rfl) (fun K HK=>?_);simp only [PK]
   go_wp2_with fail
   refine HK.out _ _ ?_;clear HK K;rw [← HWF.out];clear HWF c8 f8 p8n hg';replace P:=P2.grow hM2 SM (hxg.trans (hcF.mono (fun b h=>.inl h))) hbF;have OW3:Part.own.own (rng M wF.heap.size) wF (.slice o' ln.length c') ln:=Bg (Af OW2 hcF (.inl (by omega))) (Ae _);clear P2 hxg hbF hcF OW OW2 hxB hzA;refine Ap (by kernel_rfl) ?_
   go_wp2_with fail
   go_meet
   exact⟨M,_,ln,hM2,hMF,by rw [HLN.out];simp,by rw [HLN.out];exact(PthDrawn.nil t).snoc (by simp) PDA,OW3,P⟩
  case rest=>
   clear OW P hMs hM2 SM M;obtain⟨M,vp,l1,hM2,hMs,hln1,PD,OW,P⟩:=hcut
   obtain⟨w1z,hwz⟩:∃ wz:World,wz=wc:=⟨_,rfl⟩
   subst hwz;have SM:∀ b,M≤b→(paS w.heap.size b5 b6 b8 b∨M≤b):=fun b h=>.inr h
   obtain⟨o_l1,c_l1,rfl,_⟩:=(Bs OW).shape;have cp7:=blk3 P.p7
   go_upto_if 118 with (fail)
   clear cp7
   go_cut [] (fun wx=>∃ (M:Nat) (vp:Value) (l:List Part),b8<M∧M≤wx.heap.size∧l.length≤2∧PthDrawn t ⟨l⟩∧Part.own.own (rng M wx.heap.size) wx vp l∧PaSt (fun b=>paS w.heap.size b5 b6 b8 b∨M≤b) g cv cd w b4 b5 b6 b7 b8 (.slice o1 t.ases.length c1) (.slice o2 t.links.length c2) (.slice o_u u.hops.length c_u) (.slice o_d d.hops.length c_d) (.slice o_c c.hops.length c_c) vp t u d c wx)
   case first=>
    have hl0:c.hops.length=0∨0<c.hops.length:=by omega
    rcases hl0 with hl0 | hl0
    ·
     have hl1:decide ((0:Int)<(c.hops.length:Int))=false:=decide_eq_false (by omega)
     go_wp2_with fail
     go_meet
     exact⟨M,_,l1,hM2,hMs,by omega,PD,OW,P⟩
    have hl1:decide ((0:Int)<(c.hops.length:Int))=true:=decide_eq_true (by omega)
    go_upto_region 27 with (fail)
    clear hl1;replace P:=P.ext ((Ab w1z).drew);replace OW:=Aj OW ((Ab w1z).drew);have hMd:M≤w1z.drew.heap.size:=hMs;clear hMs;refine Ax (.blk [0,1,2] (.one 3 (.one 4 (.one 5 (.blk [6] (.one 7 .done)))))) [5,7] (by kernel_rfl) (by kernel_rfl) ?_;generalize w1z.drew=wq at P OW hMd ⊢
    have hMs:=hMd;clear hMd;replace OW:=Bg OW (Ae _);have cp8:=blk1 P.p8;have cp7:=blk3 P.p7;refine blkStep (fun K HK=>?_);simp only [PK]
    go_wp2_with fail
    refine HK.out _ _ ?_;clear HK K;clear cp8 cp7;have hls:=SDc.len;refine oneStep (fun K HK=>?_);simp only [PK]
    go_wp2_with fail
    refine(s_MakePart c _ 2 (0:Int) _ P.kc.rd (by omega)).mono ?_;rintro e wA ⟨uA,rfl,oA,hzA⟩
    obtain⟨pA,hpA⟩:∃ pA,pA=makePart c 2 (0:Nat):=⟨_,rfl⟩
    have hpA2:makePart c 2 0=pA:=hpA.symm;rw [hpA2] at oA ⊢
    have PDA:PartDrawn t pA:=by rw [hpA];exact makePart_drawn SDc (by omega) hl0
    clear hpA2 hpA;obtain⟨o_p,c_p,rfl,_⟩:=(Bb (hf:=Ao) oA).shape;replace P:=P.ext hzA
    go_wp2_with fail
    refine HK.out _ _ hzA ?_;clear HK K;have hxB:Ext wq (wA.alloc (.cells #[.int .i64 pA.kind,.int .i64 pA.ts,.int .i64 pA.beta,.slice o_p pA.hops.length c_p] 99)):=hzA.alloc _;have P2:=P.ext ((Ab wA).alloc (.cells #[.int .i64 pA.kind,.int .i64 pA.ts,.int .i64 pA.beta,.slice o_p pA.hops.length c_p] 99));refine oneStep (fun K HK=>?_);simp only [PK]
    go_wp2_with fail
    refine HK.out _ _ ((Ab _).alloc _) ?_;clear HK K;refine badStep (by kernel_rfl) (fun K HK=>?_);simp only [PK];refine appG (w0:=wq) (c:=Part.c) (hc:=Part.clen) (sub:=(·.hops)) (I:=Own.flat Hop.f 5 Ao 103) (S:=rng M wq.heap.size) EP rfl _ _ rfl pA (.slice o_p pA.hops.length c_p) (rng wq.heap.size wA.heap.size) (part_oneC _ _ _ _) rfl OW hxB (Aj (O:=Own.flat Hop.f 5 Ao 103) (Own.ofF oA) ((Ab wA).alloc _)) (fun q hq=>⟨hq.1,by have h1:=hq.2;simp;omega⟩) rfl (by exact Au (Part.c pA (.slice o_p pA.hops.length c_p)) (blk_new wA _)) (by first | omega | simp) (by first | (unfold maxLen;omega) | simp [maxLen]) ?_;intro v' w' ho' hg' hvS;have hxg:Chg (fun b=>b=b8∨M≤b) (wA.alloc (.cells #[.int .i64 pA.kind,.int .i64 pA.ts,.int .i64 pA.beta,.slice o_p pA.hops.length c_p] 99)) w':=Bn hg' (fun k hk=>.inr (hvS k hk).1);have p8n:=hg'.block b8 (Ak (blk_lt P2.p8) (Ae _)) (fun e=>by have h1:=(hvS b8 e.symm).1;omega);rw [P2.p8] at p8n;have hsg:=hg'.size
    obtain⟨ln,hln⟩:∃ ln,ln=l1 ++ [pA]:=⟨_,rfl⟩
    rw [← hln] at ho';have HLN:=Ac hln;clear hln
    have OW2 : Part.own.own (rng M w'.heap.size) w' v' ln := Own.mono _ ho' (fun q hq => by
     have hzs := hzA.size
     rcases hq with h1 | h1
     ·
      exact ⟨h1.1, by have h2 := h1.2; simp at hsg; omega⟩
     exact ⟨by have h2 := h1.1; omega, h1.2⟩)
    clear ho' oA hvS;obtain⟨o',c',rfl,_⟩:=(Bs OW2).shape;obtain⟨wF,hwF,hbF,hcF⟩:=one_set p8n 0 (.slice o' ln.length c');simp only [List.setIfInBounds_toArray,List.set_cons_zero] at hbF;have HWF:=Ac hwF;have hszF:wF.heap.size=w'.heap.size:=by rw [hwF];simp
    have hMF:M≤wF.heap.size:=by have h1:=hzA.size;simp at hsg;omega
    clear hwF;have c8:=blk1 p8n;have f8:=fr_of p8n 0
    go_wp2_with fail
    refine HK.out _ _ ?_;clear HK K;refine blkStep (fun K HK=>?_);simp only [PK]
    go_wp2_with fail
    refine HK.out _ _ ?_;clear HK K;refine badStep (by kernel_rfl) (fun K HK=>?_);simp only [PK]
    go_wp2_with fail
    refine HK.out _ _ ?_;clear HK K;rw [← HWF.out];clear HWF c8 f8 p8n hg';replace P:=P2.grow hM2 SM (hxg.trans (hcF.mono (fun b h=>.inl h))) hbF;have OW3:Part.own.own (rng M wF.heap.size) wF (.slice o' ln.length c') ln:=Bg (Af OW2 hcF (.inl (by omega))) (Ae _);clear P2 hxg hbF hcF OW OW2 hxB hzA;refine Ap (by kernel_rfl) ?_
    go_wp2_with fail
    go_meet
    exact⟨M,_,ln,hM2,hMF,by rw [HLN.out];simp;omega,by rw [HLN.out];exact PD.snoc (by omega) PDA,OW3,P⟩
   case rest=>
    clear OW P hMs hM2 SM M;obtain⟨M,vp,l2,hM2,hMs,hln2,PD,OW,P⟩:=hcut
    obtain⟨w2z,hwz⟩:∃ wz:World,wz=wc:=⟨_,rfl⟩
    subst hwz;have SM:∀ b,M≤b→(paS w.heap.size b5 b6 b8 b∨M≤b):=fun b h=>.inr h
    obtain⟨o_l2,c_l2,rfl,_⟩:=(Bs OW).shape
    skip
    have cp6:=blk3 P.p6
    go_upto_if 129 with (fail)
    clear cp6
    go_cut [] (fun wx=>∃ (M:Nat) (vp:Value) (l:List Part),b8<M∧M≤wx.heap.size∧l.length≤3∧PthDrawn t ⟨l⟩∧Part.own.own (rng M wx.heap.size) wx vp l∧PaSt (fun b=>paS w.heap.size b5 b6 b8 b∨M≤b) g cv cd w b4 b5 b6 b7 b8 (.slice o1 t.ases.length c1) (.slice o2 t.links.length c2) (.slice o_u u.hops.length c_u) (.slice o_d d.hops.length c_d) (.slice o_c c.hops.length c_c) vp t u d c wx)
    case first=>
     have hl0:d.hops.length=0∨0<d.hops.length:=by omega
     rcases hl0 with hl0 | hl0
     ·
      have hl1:decide ((0:Int)<(d.hops.length:Int))=false:=decide_eq_false (by omega)
      go_wp2_with fail
      go_meet
      exact⟨M,_,l2,hM2,hMs,by omega,PD,OW,P⟩
     have hl1:decide ((0:Int)<(d.hops.length:Int))=true:=decide_eq_true (by omega)
     go_upto_region 29 with (fail)
     clear hl1;replace P:=P.ext ((Ab w2z).drew);replace OW:=Aj OW ((Ab w2z).drew);have hMd:M≤w2z.drew.heap.size:=hMs;clear hMs;refine Ax (.blk [0,1,2] (.one 3 (.one 4 (.one 5 (.blk [6] (.one 7 .done)))))) [5,7] (by kernel_rfl) (by kernel_rfl) ?_;generalize w2z.drew=wq at P OW hMd ⊢
     have hMs:=hMd;clear hMd;replace OW:=Bg OW (Ae _);have cp8:=blk1 P.p8;have cp6:=blk3 P.p6;refine blkStep (fun K HK=>?_);simp only [PK]
     go_wp2_with fail
     refine HK.out _ _ ?_;clear HK K;clear cp8 cp6;have hls:=SDd.len;refine oneStep (fun K HK=>?_);simp only [PK]
     go_wp2_with fail
     refine(s_MakePart d _ 4 (0:Int) _ P.kd.rd (by omega)).mono ?_;rintro e wA ⟨uA,rfl,oA,hzA⟩
     obtain⟨pA,hpA⟩:∃ pA,pA=makePart d 4 (0:Nat):=⟨_,rfl⟩
     have hpA2:makePart d 4 0=pA:=hpA.symm;rw [hpA2] at oA ⊢
     have PDA:PartDrawn t pA:=by rw [hpA];exact makePart_drawn SDd (by omega) hl0
     clear hpA2 hpA;obtain⟨o_p,c_p,rfl,_⟩:=(Bb (hf:=Ao) oA).shape;replace P:=P.ext hzA
     go_wp2_with fail
     refine HK.out _ _ hzA ?_;clear HK K;have hxB:Ext wq (wA.alloc (.cells #[.int .i64 pA.kind,.int .i64 pA.ts,.int .i64 pA.beta,.slice o_p pA.hops.length c_p] 99)):=hzA.alloc _;have P2:=P.ext ((Ab wA).alloc (.cells #[.int .i64 pA.kind,.int .i64 pA.ts,.int .i64 pA.beta,.slice o_p pA.hops.length c_p] 99));refine oneStep (fun K HK=>?_);simp only [PK]
     go_wp2_with fail
     refine HK.out _ _ ((Ab _).alloc _) ?_;clear HK K;refine badStep (by kernel_rfl) (fun K HK=>?_);simp only [PK];refine appG (w0:=wq) (c:=Part.c) (hc:=Part.clen) (sub:=(·.hops)) (I:=Own.flat Hop.f 5 Ao 103) (S:=rng M wq.heap.size) EP rfl _ _ rfl pA (.slice o_p pA.hops.length c_p) (rng wq.heap.size wA.heap.size) (part_oneC _ _ _ _) rfl OW hxB (Aj (O:=Own.flat Hop.f 5 Ao 103) (Own.ofF oA) ((Ab wA).alloc _)) (fun q hq=>⟨hq.1,by have h1:=hq.2;simp;omega⟩) rfl (by exact Au (Part.c pA (.slice o_p pA.hops.length c_p)) (blk_new wA _)) (by first | omega | simp) (by first | (unfold maxLen;omega) | simp [maxLen]) ?_;intro v' w' ho' hg' hvS;have hxg:Chg (fun b=>b=b8∨M≤b) (wA.alloc (.cells #[.int .i64 pA.kind,.int .i64 pA.ts,.int .i64 pA.beta,.slice o_p pA.hops.length c_p] 99)) w':=Bn hg' (fun k hk=>.inr (hvS k hk).1);have p8n:=hg'.block b8 (Ak (blk_lt P2.p8) (Ae _)) (fun e=>by have h1:=(hvS b8 e.symm).1;omega);rw [P2.p8] at p8n;have hsg:=hg'.size
     obtain⟨ln,hln⟩:∃ ln,ln=l2 ++ [pA]:=⟨_,rfl⟩
     rw [← hln] at ho';have HLN:=Ac hln;clear hln
     have OW2 : Part.own.own (rng M w'.heap.size) w' v' ln := Own.mono _ ho' (fun q hq => by
      have hzs := hzA.size
      rcases hq with h1 | h1
      ·
       exact ⟨h1.1, by have h2 := h1.2; simp at hsg; omega⟩
      exact ⟨by have h2 := h1.1; omega, h1.2⟩)
     clear ho' oA hvS;obtain⟨o',c',rfl,_⟩:=(Bs OW2).shape;obtain⟨wF,hwF,hbF,hcF⟩:=one_set p8n 0 (.slice o' ln.length c');simp only [List.setIfInBounds_toArray,List.set_cons_zero] at hbF;have HWF:=Ac hwF;have hszF:wF.heap.size=w'.heap.size:=by rw [hwF];simp
     have hMF:M≤wF.heap.size:=by have h1:=hzA.size;simp at hsg;omega
     clear hwF;have c8:=blk1 p8n;have f8:=fr_of p8n 0
     go_wp2_with fail
     refine HK.out _ _ ?_;clear HK K;refine blkStep (fun K HK=>?_);simp only [PK]
     go_wp2_with fail
     refine HK.out _ _ ?_;clear HK K;refine badStep (by kernel_rfl) (fun K HK=>?_);simp only [PK]
     go_wp2_with fail
     refine HK.out _ _ ?_;clear HK K;rw [← HWF.out];clear HWF c8 f8 p8n hg';replace P:=P2.grow hM2 SM (hxg.trans (hcF.mono (fun b h=>.inl h))) hbF;have OW3:Part.own.own (rng M wF.heap.size) wF (.slice o' ln.length c') ln:=Bg (Af OW2 hcF (.inl (by omega))) (Ae _);clear P2 hxg hbF hcF OW OW2 hxB hzA;refine Ap (by kernel_rfl) ?_
     go_wp2_with fail
     go_meet
     exact⟨M,_,ln,hM2,hMF,by rw [HLN.out];simp;omega,by rw [HLN.out];exact PD.snoc (by omega) PDA,OW3,P⟩
    case rest=>
     clear OW P hMs hM2 SM M;obtain⟨M,vp,l3,hM2,hMs,hln3,PD,OW,P⟩:=hcut
     obtain⟨w3z,hwz⟩:∃ wz:World,wz=wc:=⟨_,rfl⟩
     subst hwz;have SM:∀ b,M≤b→(paS w.heap.size b5 b6 b8 b∨M≤b):=fun b h=>.inr h
     obtain⟨o_l3,c_l3,rfl,_⟩:=(Bs OW).shape
     skip
     go_upto_region 30 with (fail)
     have hMz:M≤w3z.drew.heap.size:=hMs;refine Bl (at1 w.heap.size) [([0,1],2)] [] [3] (by kernel_rfl) (by kernel_rfl) (by kernel_rfl) ?_;have e4:=P.o4;have e5:=P.o5;have e6:=P.o6;have e7:=P.o7;have e8:=P.o8;have elt:=P.c0.lt;have ch4:=blk2 P.p4;have q0:=Cj (S:=at1 w.heap.size) ch4 (by first | omega | (unfold at1;omega) | (simp only;omega));clear ch4;have ch8:=blk1 P.p8;have q2:=Aw (S:=at1 w.heap.size) (ch8) (by unfold at1;simp only;omega);clear ch8;clear e4 e5 e6 e7 e8 elt;simp only [wpBlocksX,pickOps,PK];have hch:Chg (at1 w.heap.size) w3z w3z.drew:=Ar (Ab w3z).drew;replace P:=P.ext ((Ab w3z).drew);replace OW:=Aj OW ((Ab w3z).drew)
     obtain⟨wt,hnw⟩:∃ wn,wn=w3z.drew:=⟨_,rfl⟩
     rw [← hnw] at P hch OW hMz ⊢
     clear hnw;have hMm:=hMz;clear hMz
     repeat (first | go_big_quiet_step (fail) | quiet_step (fail))
     refine wpQuiet_nil ?_;have hM3:w.heap.size+1<M:=by have h1:=P.o4;have h2:=P.o5;have h3:=P.o6;have h4:=P.o7;have h5:=P.o8;omega
     obtain⟨wx,wy,ex,ey,hx3,hy2,hy3,hyc,hyx,hka,hkl,hpo,hcx,hMy⟩:=P.fin SM OW (by omega) hMm;have HEX:=Ac ex;have HEY:=Ac ey;have HX3:=Ac hx3;clear ex ey hx3;have cp2:=blk2 P.p2;have f20:=fr_of P.p2 0;have f21:=fr_of P.p2 1
     go_wp2_with fail
     rw [← HEX.out];clear HEX cp2 f20 f21;refine⟨⟨⟨_,hch.trans hcx⟩,rfl⟩,?_⟩
     repeat (first | go_big_quiet_step (fail) | quiet_step (fail))
     refine wpQuiet_nil ?_;have cq3:=blk1 HX3.out;have f30:=fr_of HX3.out 0
     go_wp2_with fail
     rw [← HEY.out];clear HEY cq3 f30;clear q0 q2;refine NoPanic.normal ?_;have cq2:=blk2 hy2;have cq3:=blk1 hy3;have hsz:=hyx.size
     go_wp2_with fail
     refine bodyPost_ret (by simp [results,Tryz.results35,go_sem,cq2,cq3];rfl) rfl ?_;exact⟨_,_,_,t,⟨l3⟩,M,rfl,TK,PD,by omega,hMy,hka,hkl,Bg hpo (Ae _),hyc,hyx⟩
end
end Go.Proofs.YteodlcpeoaggbaaGreat
