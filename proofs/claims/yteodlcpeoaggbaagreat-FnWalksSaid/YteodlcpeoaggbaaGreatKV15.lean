/- What these laws need: FnOld, FnWalks: Contracts of copies of packets and of the check of the current hop, program and reference. -/
import Derived.Test.YteodlcpeoaggbaaGreatKV13
namespace Go.Proofs.YteodlcpeoaggbaaGreat
section
open Go.ChangeShapes Go.WideShapes Go.ChangeAt Go.RowKit Go.Deep
set_option maxRecDepth 100000
set_option maxHeartbeats 16000000
theorem Chg.set1 {w:World} {b:Nat} (o:Nat) (u:Value):Chg (fun i=>i=b) w (w.setCell ⟨b,o,none⟩ u):=Chg.setCell (S:=fun i=>i=b) (p:=⟨b,o,none⟩) (Bq _ w) rfl u
theorem pk_set {w:World} {b:Nat} {x0 x1 x2 x3 x4 x5 x6 x7 x8 x9:Value} {t:TypeId} (h:w.heap[b]?=some (.cells #[x0,x1,x2,x3,x4,x5,x6,x7,x8,x9] t (0,0))) (y0 y1 y2 y3 y4 y5 y6 y7 y8 y9:Value) :
  ∃ w5,w5=((((((((((w.setCell ⟨b,0,none⟩ y0).setCell ⟨b,1,none⟩ y1).setCell ⟨b,2,none⟩ y2).setCell ⟨b,3,none⟩ y3).setCell ⟨b,4,none⟩ y4).setCell ⟨b,5,none⟩ y5).setCell ⟨b,6,none⟩ y6).setCell ⟨b,7,none⟩ y7).setCell ⟨b,8,none⟩ y8).setCell ⟨b,9,none⟩ y9)∧w5.heap[b]?=some (.cells #[y0,y1,y2,y3,y4,y5,y6,y7,y8,y9] t (0,0))∧Chg (fun i=>i=b) w w5∧w5.heap.size=w.heap.size:=by
 refine⟨_,rfl,by simpa using (blk_set (blk_set (blk_set (blk_set (blk_set (blk_set (blk_set (blk_set (blk_set (blk_set h 0 y0) 1 y1) 2 y2) 3 y3) 4 y4) 5 y5) 6 y6) 7 y7) 8 y8) 9 y9),?_,by simp⟩;have q (o:Nat) (u:Value) {wq:World} (h:Chg (fun i=>i=b) w wq):=Chg.setCell (p:=⟨b,o,none⟩) h rfl u;exact q _ _ (q _ _ (q _ _ (q _ _ (q _ _ (q _ _ (q _ _ (q _ _ (q _ _ (q _ _ (Bq _ w))))))))))
theorem cell_set {w:World} {b:Nat} {arr:Array Value} {t:TypeId} (h:w.heap[b]?=some (.cells arr t (0,0))) (o:Nat) (u:Value) :
  ∃ w5,w5=w.setCell ⟨b,o,none⟩ u∧w5.heap[b]?=some (.cells (arr.setIfInBounds o u) t (0,0))∧Chg (fun i=>i=b) w w5∧w5.heap.size=w.heap.size:=
 ⟨_,rfl,blk_set h o u,Chg.set1 o u,by simp⟩
theorem Chg.other {w w':World} {b c:Nat} {o:Obj} (h:Chg (fun i=>i=b) w w') (hc:w.heap[c]?=some o) (hne:c≠b):w'.heap[c]?=some o:=(h.block c (blk_lt hc) hne).trans hc
theorem Ext.chg1 {a b c:World} {k:Nat} (h:Ext a b) (q:Chg (fun i=>i=k) b c) (hk:a.heap.size≤k):Ext a c:=h.chg q (fun i hi=>by rw [hi];exact hk)
theorem hasHop_at {x:Pkt} (h:inR x.pi 0 ((x.path.parts.length:Int) - 1)=true):0≤x.pi∧x.pi<x.path.parts.length∧x.pi.toNat<x.path.parts.length:=by
 have:=Bk.1 h;omega
theorem curPart_at {x:Pkt} (h:x.pi.toNat<x.path.parts.length):curPart x=x.path.parts[x.pi.toNat]:=Cf h
theorem hasHop_parts {x:Pkt} (h:hasHop x=true):(0≤x.pi∧x.pi<x.path.parts.length∧x.pi.toNat<x.path.parts.length)∧(0≤x.hi∧x.hi<(curPart x).hops.length∧x.hi.toNat<(curPart x).hops.length):=by
 unfold hasHop at h;simp only [Bool.and_eq_true] at h;refine⟨hasHop_at h.1,?_⟩;have:=Bk.1 h.2;omega
theorem curHop_at {x:Pkt} (h:x.hi.toNat<(curPart x).hops.length):curHop x=(curPart x).hops[x.hi.toNat]:=Bz h
theorem i_copyPacket (x:Pkt) (v0 v1:Value) (w:World) (r0:RdS Part.rep w v0 x.path.parts) (r1:RdS Rep.byte w v1 x.pay) (hl:x.size≤1048576) :
  Calls Tryz.prog 41 #[.agg #[.int .i64 x.kind,.int .i64 x.src,.int .i64 x.dst,v0,.int .i64 x.pi,.int .i64 x.hi,.int .i64 x.beta,.int .i64 x.rid,.int .i64 x.seq,v1]] w fun e w'=>∃ u0 u1,e=.returned (.agg #[.int .i64 x.kind,.int .i64 x.src,.int .i64 x.dst,u0,.int .i64 x.pi,.int .i64 x.hi,.int .i64 x.beta,.int .i64 x.rid,.int .i64 x.seq,u1])∧Pkt.own (rng w.heap.size w'.heap.size) w' u0 u1 x∧Ext w w':=by
 have hl0:x.path.size≤1048576:=by unfold Pkt.size at hl;omega
 have hl1:x.pay.length≤1048576:=by unfold Pkt.size at hl;omega
 obtain⟨hx0,HB⟩:=ea2 w (.cells #[.int .i64 x.kind,.int .i64 x.src,.int .i64 x.dst,v0,.int .i64 x.pi,.int .i64 x.hi,.int .i64 x.beta,.int .i64 x.rid,.int .i64 x.seq,v1] 35) (.cells #[.int .i64 0,.int .i64 0,.int .i64 0,.slice none 0 0,.int .i64 0,.int .i64 0,.int .i64 0,.int .i64 0,.int .i64 0,.slice none 0 0] 35);replace HB:=Ac HB
 go_enter Tryz.func41,Tryz.ntmps41
 go_wp2_with fail
 refine(i_copyPath x.path _ _ (r0.ext hx0) hl0).mono ?_;rintro e w1 ⟨u1,rfl,o1',h1⟩;obtain⟨o1,c1,rfl,_⟩:=(Bs o1').shape;have hs1:w.heap.size+1+1≤w1.heap.size:=by simpa using h1.size
 have hb1:=h1.block HB.out.1;have hr1:=h1.block HB.out.2;obtain⟨wa,hwa,hba,hca,hsa⟩:=cell_set hb1 3 (.slice o1 x.path.parts.length c1);have hra:=hca.other hr1 (by omega);have HXA:=Ac ((hx0.trans h1).chg1 hca (Ae _));have O1:=Ac (Part.own.kept o1' hca (fun b hb e=>by have h1:=hb.1;simp at h1;omega));have HWA:=Ac hwa;have HBA:=Ac hba;have HRA:=Ac hra;clear hwa hba hra hr1 o1';have cb1:=blk10 hb1;have gb3:=fr_of hb1 3
 go_wp2_with fail
 rw [← HWA.out];clear cb1 hb1 gb3;refine(i_copyBytes x.pay _ _ (r1.ext HXA.out) (by omega)).mono ?_;rintro e w2 ⟨u2,rfl,o2',h2⟩;obtain⟨o2,c2,rfl,_⟩:=(Bb (hf:=byteFlen) o2').shape;have hs2:=h2.size;have hb2:=h2.block HBA.out;have hr2:=h2.block HRA.out;obtain⟨wb,hwb,hbb,hcb,hsb⟩:=cell_set hb2 9 (.slice o2 x.pay.length c2);have hrb:=hcb.other hr2 (by omega);obtain⟨wc,hwc,hrc,hcc,hsc⟩:=pk_set hrb (.int .i64 x.kind) (.int .i64 x.src) (.int .i64 x.dst) ((.slice o1 x.path.parts.length c1)) (.int .i64 x.pi) (.int .i64 x.hi) (.int .i64 x.beta) (.int .i64 x.rid) (.int .i64 x.seq) ((.slice o2 x.pay.length c2));have O1b:=Part.own.kept (Part.own.kept (Aj O1.out h2) hcb (fun b hb e=>by have h1:=hb.1;simp at h1;omega)) hcc (fun b hb e=>by have h1:=hb.1;simp at h1;omega);have O2b:=byteOwn.kept (byteOwn.kept (Own.ofF (hf:=byteFlen) o2') hcb (fun b hb e=>by have h1:=hb.1;omega)) hcc (fun b hb e=>by have h1:=hb.1;omega);have HX:=Ac (((HXA.out.trans h2).chg1 hcb (Ae _)).chg1 hcc (Nat.le_succ _));have O1c:=Ac O1b;have O2c:=Ac O2b;have HWC:=Ac (hwb ▸ hwc);have HRC:=Ac hrc;have hs3:w2.heap.size=wc.heap.size:=by rw [hsc,hsb]
 clear hwb hwc hbb hrb hrc O1b O2b o2';have cb2:=blk10 hb2;have cr2:=blk10 hr2;have gb9:=fr_of hb2 9;have gr0:=fr10 hr2;clear hb2 hr2
 go_wp2_with fail
 rw [← HWC.out];clear cb2 cr2 gb9 gr0;have cc:=blk10 HRC.out;refine bodyPost_ret (by simp [results,Tryz.results41,go_sem,cc] <;> rfl) rfl ⟨_,_,rfl,⟨_,_,O1c.out,O2c.out,fun b hb=>⟨by have h1:=hb.1;simp at h1;omega,by have h1:=hb.2;omega⟩,fun b hb=>⟨by have h1:=hb.1;omega,by have h1:=hb.2;omega⟩,fun b hb h2=>by have h1:=hb.2;have h3:=h2.1;omega⟩,HX.out⟩
theorem s_l26Copy (x:Pkt) (v0 v1:Value) (w:World) (r0:RdS Part.rep w v0 x.path.parts) (r1:RdS Rep.byte w v1 x.pay) (hl:x.size≤1048576) :
  Calls Tryz.prog 48 #[.agg #[.int .i64 x.kind,.int .i64 x.src,.int .i64 x.dst,v0,.int .i64 x.pi,.int .i64 x.hi,.int .i64 x.beta,.int .i64 x.rid,.int .i64 x.seq,v1]] w fun e w'=>∃ u0 u1,e=.returned (.agg #[.int .i64 x.kind,.int .i64 x.src,.int .i64 x.dst,u0,.int .i64 x.pi,.int .i64 x.hi,.int .i64 x.beta,.int .i64 x.rid,.int .i64 x.seq,u1])∧Pkt.own (rng w.heap.size w'.heap.size) w' u0 u1 x∧Ext w w':=by
 have hl0:x.path.size≤1048576:=by unfold Pkt.size at hl;omega
 have hl1:x.pay.length≤1048576:=by unfold Pkt.size at hl;omega
 obtain⟨E⟩:=elemByte;obtain⟨oy,cy,rfl,_⟩:=r1.shape;obtain⟨ox,cx,rfl,_⟩:=r0.shape;obtain⟨hx0,HB⟩:=ea3 w (.cells #[.int .i64 x.kind,.int .i64 x.src,.int .i64 x.dst,.slice ox x.path.parts.length cx,.int .i64 x.pi,.int .i64 x.hi,.int .i64 x.beta,.int .i64 x.rid,.int .i64 x.seq,.slice oy x.pay.length cy] 35) (.cells #[.int .i64 0,.int .i64 0,.int .i64 0,.slice none 0 0,.int .i64 0,.int .i64 0,.int .i64 0,.int .i64 0,.int .i64 0,.slice none 0 0] 35) (.cells #[.int .i64 x.kind,.int .i64 x.src,.int .i64 x.dst,.slice ox x.path.parts.length cx,.int .i64 x.pi,.int .i64 x.hi,.int .i64 x.beta,.int .i64 x.rid,.int .i64 x.seq,.slice oy x.pay.length cy] 35);replace HB:=Ac HB
 go_enter Tryz.func48,Tryz.ntmps48
 go_wp2_with fail
 refine(s_l22Copy x.path _ _ (r0.ext hx0) hl0).mono ?_;rintro e w1 ⟨u1,rfl,o1',h1⟩;obtain⟨o1,c1,rfl,_⟩:=(Bs o1').shape;have hs1:w.heap.size+1+1+1≤w1.heap.size:=by simpa using h1.size
 have hb1:=h1.block HB.out.1;have hr1:=h1.block HB.out.2.1;have ho1:=h1.block HB.out.2.2;obtain⟨wa,hwa,hoa,hca,hsa⟩:=cell_set ho1 3 (.slice o1 x.path.parts.length c1);have hra:=hca.other hr1 (by omega);have hXA:=(hx0.trans h1).chg1 hca (by omega);have O1:=Ac (Part.own.kept o1' hca (fun b hb e=>by have h1:=hb.1;simp at h1;omega));have hoe:OwnF byteF 1 w1.heap.size 5 ((w1.setCell ⟨w.heap.size+1+1,3,none⟩ (.slice o1 x.path.parts.length c1)).alloc (.cells #[] 5)) (.slice (some ⟨w1.heap.size,0,none⟩) 0 0) []:=Cg (by simp) (Ae _);have hrp:RdS Rep.byte ((w1.setCell ⟨w.heap.size+1+1,3,none⟩ (.slice o1 x.path.parts.length c1)).alloc (.cells #[] 5)) (.slice oy x.pay.length cy) x.pay:=r1.ext (hwa ▸ hXA.alloc (.cells #[] 5));have HWA:=Ac hwa;have HOA:=Ac hoa;have HRA:=Ac hra;have HXA:=Ac hXA;have hba:=hca.other hb1 (by omega);have cba:=blk10 (Aa ((Ab wa).alloc (.cells #[] 5)) hba);rw [hwa] at cba;clear hwa hoa hra hr1 o1' hXA hba;have cb1:=blk10 hb1;have co1:=blk10 ho1;have gb3:=fr_of ho1 3;clear hb1 ho1
 go_wp2_with (at_builtin;refine appS E byteFlen byteOne rfl _ _ rfl x.pay rfl hoe rfl hrp (by first | omega | (simp;omega)) (by first | (unfold maxLen;omega) | (simp [maxLen];omega)) (by simp) ?_)
 intro v2 w2 o2' hg2
 try rw [List.nil_append] at o2'
 have h2':Ext (w1.setCell ⟨w.heap.size+1+1,3,none⟩ (.slice o1 x.path.parts.length c1)) w2:=((Ab (w1.setCell ⟨w.heap.size+1+1,3,none⟩ (.slice o1 x.path.parts.length c1))).alloc (.cells #[] 5)).app hg2 hoe (by simp);rw [← HWA.out] at h2';have h2:=h2';clear hg2 hoe hrp cb1 co1 gb3 h2' cba;obtain⟨o2,c2,rfl,_⟩:=(Bb (hf:=byteFlen) o2').shape;have hs2:=h2.size;have ho2:=h2.block HOA.out;have hr2:=h2.block HRA.out;obtain⟨wb,hwb,hob,hcb,hsb⟩:=cell_set ho2 9 (.slice o2 x.pay.length c2);have hrb:=hcb.other hr2 (by omega);obtain⟨wc,hwc,hrc,hcc,hsc⟩:=pk_set hrb (.int .i64 x.kind) (.int .i64 x.src) (.int .i64 x.dst) ((.slice o1 x.path.parts.length c1)) (.int .i64 x.pi) (.int .i64 x.hi) (.int .i64 x.beta) (.int .i64 x.rid) (.int .i64 x.seq) ((.slice o2 x.pay.length c2));have O1b:=Part.own.kept (Part.own.kept (Aj O1.out h2) hcb (fun b hb e=>by have h1:=hb.1;simp at h1;omega)) hcc (fun b hb e=>by have h1:=hb.1;simp at h1;omega);have O2b:=byteOwn.kept (byteOwn.kept (Own.ofF (hf:=byteFlen) o2') hcb (fun b hb e=>by have h1:=hb.1;omega)) hcc (fun b hb e=>by have h1:=hb.1;omega);have HX:=Ac (((HXA.out.trans h2).chg1 hcb (by omega)).chg1 hcc (Nat.le_succ _));have O1c:=Ac O1b;have O2c:=Ac O2b;have HWC:=Ac (hwb ▸ hwc);have HRC:=Ac hrc;have hs3:w2.heap.size=wc.heap.size:=by rw [hsc,hsb]
 clear hwb hwc hob hrb hrc O1b O2b o2';have co2:=blk10 ho2;have cr2:=blk10 hr2;have gb9:=fr_of ho2 9;have gr0:=fr10 hr2;clear ho2 hr2
 go_wp2_with fail
 rw [← HWC.out];clear co2 cr2 gb9 gr0;have cc:=blk10 HRC.out;refine bodyPost_ret (by simp [results,Tryz.results48,go_sem,cc] <;> rfl) rfl ⟨_,_,rfl,⟨_,_,O1c.out,O2c.out,fun b hb=>⟨by have h1:=hb.1;simp at h1;omega,by have h1:=hb.2;omega⟩,fun b hb=>⟨by have h1:=hb.1;omega,by have h1:=hb.2;omega⟩,fun b hb h2=>by have h1:=hb.2;have h3:=h2.1;omega⟩,HX.out⟩
theorem i_hasHop (x:Pkt) (v0 v1:Value) (w:World) (r0:RdS Part.rep w v0 x.path.parts) :
  Calls Tryz.prog 178 #[.agg #[.int .i64 x.kind,.int .i64 x.src,.int .i64 x.dst,v0,.int .i64 x.pi,.int .i64 x.hi,.int .i64 x.beta,.int .i64 x.rid,.int .i64 x.seq,v1]] w fun e w'=>e=.returned (.bool (hasHop x))∧Ext w w':=by
 obtain⟨o,cap,rfl,hsm⟩:=r0.shape;obtain⟨hx0,HB0⟩:=ea1 w (.cells #[.int .i64 x.kind,.int .i64 x.src,.int .i64 x.dst,.slice o x.path.parts.length cap,.int .i64 x.pi,.int .i64 x.hi,.int .i64 x.beta,.int .i64 x.rid,.int .i64 x.seq,v1] 35);replace HB0:=Ac HB0
 go_enter Tryz.func178,Tryz.ntmps178
 have hw1:IntKind.i64.wrap ((x.path.parts.length:Int) - 1)=(x.path.parts.length:Int) - 1:=IntWalk.i64_in _ (by omega)
 cases b1:inR x.pi 0 ((x.path.parts.length:Int) - 1)
 ·
  have HE:=Ac (show hasHop x=false by unfold hasHop;rw [b1];simp);have cf1:=blk10 HB0.out
  go_wp2_with fail
  refine Al (by kernel_rfl) (by kernel_rfl) ?_;have q0:=Bp cf1
  repeat (first | go_big_quiet_step (((first | (go_at_call 110;exact Am (i_InRange _ _ _ _))))) | quiet_step (((first | (go_at_call 110;exact Am (i_InRange _ _ _ _))))))
  refine wpQuiet_nil ?_;intro w1 hw1;have hz1:=Bc hw1;clear hw1 q0;clear hw1
  try clear cf1
  have cf2:=blk10 (Aa hz1 HB0.out)
  go_wp2_with fail
  go_ret
  exact⟨Ah HE.out.symm,(hx0.t hz1)⟩
 obtain⟨p0,p1,p2⟩:=hasHop_at b1;have HCP:=Ac (curPart_at p2);have HCP2:=Ac (show(curPart x).hops.length=x.path.parts[x.pi.toNat].hops.length by rw [HCP.out]);obtain⟨b,off,oh,ch,rfl,hc,hr⟩:=Bx (r0.ext hx0) x.pi.toNat p2;obtain⟨oh',ch',eh,hhl⟩:=hr.shape;have hhl2:x.path.parts[x.pi.toNat].hops.length≤9223372036854775807:=hhl;clear eh hhl;have hw2:IntKind.i64.wrap ((x.path.parts[x.pi.toNat].hops.length:Int) - 1)=(x.path.parts[x.pi.toNat].hops.length:Int) - 1:=IntWalk.i64_in _ (by omega)
 cases b2:inR x.hi 0 ((x.path.parts[x.pi.toNat].hops.length:Int) - 1)
 ·
  have HE:=Ac (show hasHop x=false by unfold hasHop;rw [b1,HCP2.out,b2];rfl);have cf3:=blk10 HB0.out
  go_wp2_with fail
  refine Al (by kernel_rfl) (by kernel_rfl) ?_;have q0:=Bp cf3;have q10:=Bm hc
  repeat (first | go_big_quiet_step (((first | (go_at_call 110;exact Am (i_InRange _ _ _ _))))) | quiet_step (((first | (go_at_call 110;exact Am (i_InRange _ _ _ _))))))
  refine wpQuiet_nil ?_;intro w2 hw2;have hz2:=Bc hw2;clear hw2 q0 q10;clear hw1 hw2
  try clear cf3
  have cf4:=blk10 (Aa hz2 HB0.out);have cf5:=Ag hz2 hc
  go_wp2_with fail
  go_ret
  exact⟨Ah HE.out.symm,(hx0.t hz2)⟩
 have HE:=Ac (show hasHop x=true by unfold hasHop;rw [b1,HCP2.out,b2];rfl);have cf6:=blk10 HB0.out
 go_wp2_with fail
 refine Al (by kernel_rfl) (by kernel_rfl) ?_;have q0:=Bp cf6;have q10:=Bm hc
 repeat (first | go_big_quiet_step (((first | (go_at_call 110;exact Am (i_InRange _ _ _ _))))) | quiet_step (((first | (go_at_call 110;exact Am (i_InRange _ _ _ _))))))
 refine wpQuiet_nil ?_;intro w3 hw3;have hz3:=Bc hw3;clear hw3 q0 q10;clear hw1 hw2
 try clear cf6
 have cf7:=blk10 (Aa hz3 HB0.out);have cf8:=Ag hz3 hc
 go_wp2_with fail
 go_ret
 exact⟨Ah HE.out.symm,(hx0.t hz3)⟩
theorem s_CurrentAS (x:Pkt) (v0 v1:Value) (w:World) (r0:RdS Part.rep w v0 x.path.parts) :
  Calls Tryz.prog 100 #[.agg #[.int .i64 x.kind,.int .i64 x.src,.int .i64 x.dst,v0,.int .i64 x.pi,.int .i64 x.hi,.int .i64 x.beta,.int .i64 x.rid,.int .i64 x.seq,v1]] w fun e w'=>e=.returned (.int .i64 (curAs x))∧Ext w w':=by
 obtain⟨o,cap,rfl,hsm⟩:=r0.shape;obtain⟨hx0,HB0⟩:=ea1 w (.cells #[.int .i64 x.kind,.int .i64 x.src,.int .i64 x.dst,.slice o x.path.parts.length cap,.int .i64 x.pi,.int .i64 x.hi,.int .i64 x.beta,.int .i64 x.rid,.int .i64 x.seq,v1] 35);replace HB0:=Ac HB0
 go_enter Tryz.func100,Tryz.ntmps100
 have hw1:IntKind.i64.wrap ((x.path.parts.length:Int) - 1)=(x.path.parts.length:Int) - 1:=IntWalk.i64_in _ (by omega)
 cases b1:inR x.pi 0 ((x.path.parts.length:Int) - 1)
 ·
  have HE:=Ac (show curAs x = -1 by unfold curAs hasHop;rw [b1];simp);have cf1:=blk10 HB0.out
  go_wp2_with fail
  refine Al (by kernel_rfl) (by kernel_rfl) ?_;have q0:=Bp cf1
  repeat (first | go_big_quiet_step (((first | (go_at_call 117;exact Am (s_l1In _ _ _ _))))) | quiet_step (((first | (go_at_call 117;exact Am (s_l1In _ _ _ _))))))
  refine wpQuiet_nil ?_;intro w1 hw1;have hz1:=Bc hw1;clear hw1 q0;clear hw1
  try clear cf1
  have cf2:=blk10 (Aa hz1 HB0.out)
  go_wp2_with fail
  go_ret
  exact⟨ret_int HE.out.symm,(hx0.t hz1)⟩
 obtain⟨p0,p1,p2⟩:=hasHop_at b1;have HCP:=Ac (curPart_at p2);have HCP2:=Ac (show(curPart x).hops.length=x.path.parts[x.pi.toNat].hops.length by rw [HCP.out]);obtain⟨b,off,oh,ch,rfl,hc,hr⟩:=Bx (r0.ext hx0) x.pi.toNat p2;obtain⟨oh',ch',eh,hhl⟩:=hr.shape;have hhl2:x.path.parts[x.pi.toNat].hops.length≤9223372036854775807:=hhl;clear eh hhl;have hw2:IntKind.i64.wrap ((x.path.parts[x.pi.toNat].hops.length:Int) - 1)=(x.path.parts[x.pi.toNat].hops.length:Int) - 1:=IntWalk.i64_in _ (by omega)
 cases b2:inR x.hi 0 ((x.path.parts[x.pi.toNat].hops.length:Int) - 1)
 ·
  have HE:=Ac (show curAs x = -1 by unfold curAs hasHop;rw [b1,HCP2.out,b2];rfl);have cf3:=blk10 HB0.out
  go_wp2_with fail
  refine Al (by kernel_rfl) (by kernel_rfl) ?_;have q0:=Bp cf3;have q10:=Bm hc
  repeat (first | go_big_quiet_step (((first | (go_at_call 117;exact Am (s_l1In _ _ _ _))))) | quiet_step (((first | (go_at_call 117;exact Am (s_l1In _ _ _ _))))))
  refine wpQuiet_nil ?_;intro w2 hw2;have hz2:=Bc hw2;clear hw2 q0 q10;clear hw1 hw2
  try clear cf3
  have cf4:=blk10 (Aa hz2 HB0.out);have cf5:=Ag hz2 hc
  go_wp2_with fail
  go_ret
  exact⟨ret_int HE.out.symm,(hx0.t hz2)⟩
 have q:=Bk.1 b2;have q1:0≤x.hi:=q.1;have q2:x.hi<(x.path.parts[x.pi.toNat].hops.length:Int):=by omega
 have q3:x.hi.toNat<x.path.parts[x.pi.toNat].hops.length:=by omega
 clear q;have HE:=Ac (show curAs x=x.path.parts[x.pi.toNat].hops[x.hi.toNat].asn by unfold curAs hasHop curHop;rw [b1,HCP2.out,b2,HCP.out,Bz q3];rfl);obtain⟨b4,off4,rfl,ht⟩:=Ca (hr.ext (Ab _)) x.hi.toNat q3;have cf6:=blk10 HB0.out
 go_wp2_with fail
 refine Al (by kernel_rfl) (by kernel_rfl) ?_;have q0:=Bp cf6;have q10:=Bm hc;have q14:=Bv ht
 repeat (first | go_big_quiet_step (((first | (go_at_call 117;exact Am (s_l1In _ _ _ _))))) | quiet_step (((first | (go_at_call 117;exact Am (s_l1In _ _ _ _))))))
 refine wpQuiet_nil ?_;intro w3 hw3;have hz3:=Bc hw3;clear hw3 q0 q10 q14;clear hw1 hw2
 try clear cf6
 have cf7:=blk10 (Aa hz3 HB0.out);have cf8:=Ag hz3 hc;have cf9:=Av hz3 ht
 go_wp2_with fail
 refine Al (by kernel_rfl) (by kernel_rfl) ?_;have q0:=Bp cf7;have q10:=Bm cf8;have q14:=Bv cf9
 repeat (first | go_big_quiet_step ((fail)) | quiet_step ((fail)))
 refine wpQuiet_nil ?_;intro w4 hw4;have hz4:=Bc hw4;clear hw4 q0 q10 q14
 try clear cf7
 try clear cf8
 try clear cf9
 have cf10:=blk10 (Aa (hz3.t hz4) HB0.out);have cf11:=Ag (hz3.t hz4) hc;have cf12:=Av (hz3.t hz4) ht
 go_wp2_with fail
 go_ret
 exact⟨ret_int HE.out.symm,((hx0.t hz3).t hz4)⟩
theorem verCur_no {t:Topo} {x:Pkt} (h:curOk t x=false):verCur t x=x:=by unfold verCur;rw [h];rfl
theorem verCur_c {t:Topo} {x:Pkt} (h:curOk t x=true):verCur t x={ x with beta:=curAfter x }:=by unfold verCur;rw [h];rfl
theorem curOk_1 {t:Topo} {x:Pkt} (h:hasHop x=false):curOk t x=false:=by unfold curOk;rw [h];rfl
theorem curOk_2 {t:Topo} {x:Pkt} (h:hasHop x=true) (h2:isRev (curPart x).kind=true):curOk t x=verHop t (curPart x).ts (subMod x.beta (curHop x).mac) (curHop x):=by unfold curOk curBefore;rw [h,h2];rfl
theorem curOk_3 {t:Topo} {x:Pkt} (h:hasHop x=true) (h2:isRev (curPart x).kind=false):curOk t x=verHop t (curPart x).ts x.beta (curHop x):=by unfold curOk curBefore;rw [h,h2];rfl
theorem curAfter_2 {x:Pkt} (h2:isRev (curPart x).kind=true):curAfter x=subMod x.beta (curHop x).mac:=by unfold curAfter;rw [h2];rfl
theorem curAfter_3 {x:Pkt} (h2:isRev (curPart x).kind=false):curAfter x=addMod x.beta (curHop x).mac:=by unfold curAfter;rw [h2];rfl
theorem hopc_ext {w w':World} {b off k:Nat} {v0 v1 v2 v3 v4:Value} (x:Ext w w') (h:w.cell? ⟨b,off+k * 5,none⟩=some v0∧w.cell? ⟨b,off+k * 5+1,none⟩=some v1∧w.cell? ⟨b,off+k * 5+2,none⟩=some v2∧w.cell? ⟨b,off+k * 5+3,none⟩=some v3∧w.cell? ⟨b,off+k * 5+4,none⟩=some v4) :
  w'.cell? ⟨b,off+k * 5,none⟩=some v0∧w'.cell? ⟨b,off+k * 5+1,none⟩=some v1∧w'.cell? ⟨b,off+k * 5+2,none⟩=some v2∧w'.cell? ⟨b,off+k * 5+3,none⟩=some v3∧w'.cell? ⟨b,off+k * 5+4,none⟩=some v4:=
 ⟨x.cell h.1,x.cell h.2.1,x.cell h.2.2.1,x.cell h.2.2.2.1,x.cell h.2.2.2.2⟩
theorem curAs_has {x:Pkt} (h:¬ curAs x<0):hasHop x=true:=by
 cases hh:hasHop x
 ·
  exact absurd (show curAs x<0 by unfold curAs;rw [hh];show(-1:Int)<0;decide) h
 rfl
theorem curOk_neg {t:Topo} {x:Pkt} (h:curAs x<0):curOk t x=false:=by
 cases hh:hasHop x
 ·
  exact curOk_1 hh
 unfold curAs at h;rw [hh] at h;have h':(curHop x).asn<0:=h;unfold curOk verHop validHop
 have:inR (curHop x).asn 0 7=false:=by
  cases h2:inR (curHop x).asn 0 7
  ·
   rfl
  have:=Bk.1 h2;omega
 rw [this];simp
theorem i_VerifyCurrentHop (t:Topo) (va vk:Value) (x:Pkt) (v0 v1:Value) (w:World) (ha:RdS ASd.rep w va t.ases) (_:RdS Lnk.rep w vk t.links) (r0:RdS Part.rep w v0 x.path.parts) (r1:RdS Rep.byte w v1 x.pay) (hl:x.size≤1048576) :
  Calls Tryz.prog 179 #[.agg #[va,vk],.agg #[.int .i64 x.kind,.int .i64 x.src,.int .i64 x.dst,v0,.int .i64 x.pi,.int .i64 x.hi,.int .i64 x.beta,.int .i64 x.rid,.int .i64 x.seq,v1]] w fun e w'=>∃ u0 u1,e=.returned (.tuple #[.agg #[.int .i64 (verCur t x).kind,.int .i64 (verCur t x).src,.int .i64 (verCur t x).dst,u0,.int .i64 (verCur t x).pi,.int .i64 (verCur t x).hi,.int .i64 (verCur t x).beta,.int .i64 (verCur t x).rid,.int .i64 (verCur t x).seq,u1],.bool (curOk t x)])∧Pkt.own (rng w.heap.size w'.heap.size) w' u0 u1 (verCur t x)∧Ext w w':=by
 obtain⟨o,cap,rfl,hsm⟩:=r0.shape;obtain⟨hx0,HB0⟩:=ea3 w (.cells #[va,vk] 27) (.cells #[.int .i64 x.kind,.int .i64 x.src,.int .i64 x.dst,.slice o x.path.parts.length cap,.int .i64 x.pi,.int .i64 x.hi,.int .i64 x.beta,.int .i64 x.rid,.int .i64 x.seq,v1] 35) (.cells #[.int .i64 0,.int .i64 0,.int .i64 0,.slice none 0 0,.int .i64 0,.int .i64 0,.int .i64 0,.int .i64 0,.int .i64 0,.slice none 0 0] 35);replace HB0:=Ac HB0
 go_enter Tryz.func179,Tryz.ntmps179
 have cf1:=blk2 HB0.out.1;have cf2:=blk10 HB0.out.2.1;have cf3:=blk10 HB0.out.2.2
 go_wp2_with fail
 refine(i_copyPacket x _ _ _ (r0.ext hx0) (r1.ext hx0) hl).mono ?_;rintro e w1 ⟨u0,u1,rfl,oo,hz1⟩;obtain⟨o1,c1,rfl,_⟩:=(As oo).shape;obtain⟨o2,c2,rfl,_⟩:=(At oo).shape;have hs1:w.heap.size+1+1+1≤w1.heap.size:=by simpa using hz1.size
 have OO:=Ac oo;clear oo
 try clear cf1
 try clear cf2
 try clear cf3
 have cf4:=blk2 (Aa hz1 HB0.out.1);have cf5:=blk10 (Aa hz1 HB0.out.2.1);have cf6:=blk10 (Aa hz1 HB0.out.2.2);obtain⟨hx1,HB1⟩:=ea1 w1 (.cells #[.int .i64 x.kind,.int .i64 x.src,.int .i64 x.dst,(.slice o1 x.path.parts.length c1),.int .i64 x.pi,.int .i64 x.hi,.int .i64 x.beta,.int .i64 x.rid,.int .i64 x.seq,(.slice o2 x.pay.length c2)] 35);replace HB1:=Ac HB1;have cf7:=blk2 (Aa (hz1.t hx1) HB0.out.1);have cf8:=blk10 (Aa (hz1.t hx1) HB0.out.2.1);have cf9:=blk10 (Aa (hz1.t hx1) HB0.out.2.2);have cf10:=blk10 HB1.out
 go_wp2_with fail
 refine(i_hasHop x _ _ _ (r0.ext ((hx0.t hz1).t hx1))).mono ?_;rintro e w2 ⟨rfl,hz2⟩
 cases b1:hasHop x
 ·
  have HE:=Ac (curOk_1 (t:=t) b1);have hR:=Aa ((hz1.t hx1).t hz2) HB0.out.2.2;have hO:=Aa hz2 HB1.out;have oo:=Ba OO.out (hx1.t hz2);have hsz:=(hx1.t hz2).size;have hso:w1.heap.size<w2.heap.size:=blk_lt hO;obtain⟨wc,hwc,hrc,hcc,hsc⟩:=pk_set hR (.int .i64 x.kind) (.int .i64 x.src) (.int .i64 x.dst) ((.slice o1 x.path.parts.length c1)) (.int .i64 x.pi) (.int .i64 x.hi) (.int .i64 x.beta) (.int .i64 x.rid) (.int .i64 x.seq) ((.slice o2 x.pay.length c2));have HOW:=Ac (An oo hcc (fun b hb e=>by have h1:=hb.1;have h2:=hb.2;simp at h1;omega));have HXX:=Ac ((((hx0.t hz1).t hx1).t hz2).chg1 hcc (by omega));have HWC:=Ac hwc;have hsz2:w2.heap.size=wc.heap.size:=hsc.symm;have HRC:=Ac hrc;have hRF:=fun o=>fr_of hR o
  have hOF:=fr_of hO 6;have gr0:=hRF 0;have gr1:=hRF 1;have gr2:=hRF 2;have gr3:=hRF 3;have gr4:=hRF 4;have gr5:=hRF 5;have gr6:=hRF 6;have gr7:=hRF 7;have gr8:=hRF 8;have gr9:=hRF 9;clear hRF hR hO oo hwc hrc hcc hsc
  try clear cf7
  try clear cf8
  try clear cf9
  try clear cf10
  have cf11:=blk2 (Aa ((hz1.t hx1).t hz2) HB0.out.1);have cf12:=blk10 (Aa ((hz1.t hx1).t hz2) HB0.out.2.1);have cf13:=blk10 (Aa ((hz1.t hx1).t hz2) HB0.out.2.2);have cf14:=blk10 (Aa hz2 HB1.out)
  go_wp2_with fail
  rw [← HWC.out];clear hOF gr0 gr1 gr2 gr3 gr4 gr5 gr6 gr7 gr8 gr9 cf11 cf12 cf13 cf14;have cc:=blk10 HRC.out;refine bodyPost_ret (by simp [results,Tryz.results179,go_sem,cc] <;> rfl) rfl ?_;rw [verCur_no HE.out,HE.out];exact⟨_,_,rfl,Az HOW.out (fun b hb=>⟨by have h1:=hb.1;simp at h1;omega,by have h2:=hb.2;omega⟩),HXX.out⟩
 obtain⟨⟨p0,p1,p2⟩,q0,q1,q2⟩:=hasHop_parts b1;have hcp:=curPart_at p2;obtain⟨b,off,oh,ch,rfl,hc,hr⟩:=Bx (r0.ext (((hx0.t hz1).t hx1).t hz2)) x.pi.toNat p2;rw [← hcp] at hc hr;clear hcp;have hch:=curHop_at q2
 try clear cf7
 try clear cf8
 try clear cf9
 try clear cf10
 have cf15:=blk2 (Aa ((hz1.t hx1).t hz2) HB0.out.1);have cf16:=blk10 (Aa ((hz1.t hx1).t hz2) HB0.out.2.1);have cf17:=blk10 (Aa ((hz1.t hx1).t hz2) HB0.out.2.2);have cf18:=blk10 (Aa hz2 HB1.out);have em:=(Ab w2).alloc (.cells #[.int .i64 (curPart x).kind,.int .i64 (curPart x).ts,.int .i64 (curPart x).beta,.slice oh (curPart x).hops.length ch] 99);have cm1:=blk10 (Aa (((hz1.t hx1).t hz2).trans em) HB0.out.2.1);obtain⟨b3,off3,rfl,ht⟩:=Ca hr x.hi.toNat q2;rw [← hch] at ht;have ht2:=hopc_ext em ht;clear hch;obtain⟨hx2,HB2⟩:=ea2 w2 (.cells #[.int .i64 (curPart x).kind,.int .i64 (curPart x).ts,.int .i64 (curPart x).beta,.slice (some ⟨b3,off3,none⟩) (curPart x).hops.length ch] 99) (.cells #[.int .i64 (curHop x).asn,.int .i64 (curHop x).ing,.int .i64 (curHop x).eg,.int .i64 (curHop x).exp,.int .i64 (curHop x).mac] 103);replace HB2:=Ac HB2;have cf19:=blk2 (Aa (((hz1.t hx1).t hz2).t hx2) HB0.out.1);have cf20:=blk10 (Aa (((hz1.t hx1).t hz2).t hx2) HB0.out.2.1);have cf21:=blk10 (Aa (((hz1.t hx1).t hz2).t hx2) HB0.out.2.2);have cf22:=blk10 (Aa (hz2.t hx2) HB1.out);have cf23:=blk4 HB2.out.1;have cf24:=blk5 HB2.out.2;have cf25:=Ag hx2 hc
 go_wp2_with fail
 refine Al (by kernel_rfl) (by kernel_rfl) ?_;have q0:=Br cf19;have q2:=Bp cf20;have q12:=Bp cf21;have q22:=Bp cf22;have q32:=Bm cf23;have q36:=Bv cf24;have q41:=Bm cf25
 repeat (first | go_big_quiet_step (((first | (go_at_call 191;exact Am (i_AddMod _ _ _))))) | quiet_step (((first | (go_at_call 191;exact Am (i_AddMod _ _ _))))))
 refine wpQuiet_nil ?_;intro w3 hw3;have hz3:=Bc hw3;clear hw3 q0 q2 q12 q22 q32 q36 q41
 try clear cf19
 try clear cf20
 try clear cf21
 try clear cf22
 try clear cf23
 try clear cf24
 try clear cf25
 have cf26:=blk2 (Aa ((((hz1.t hx1).t hz2).t hx2).t hz3) HB0.out.1);have cf27:=blk10 (Aa ((((hz1.t hx1).t hz2).t hx2).t hz3) HB0.out.2.1);have cf28:=blk10 (Aa ((((hz1.t hx1).t hz2).t hx2).t hz3) HB0.out.2.2);have cf29:=blk10 (Aa ((hz2.t hx2).t hz3) HB1.out);have cf30:=blk4 (Aa hz3 HB2.out.1);have cf31:=blk5 (Aa hz3 HB2.out.2);have cf32:=Ag (hx2.t hz3) hc
 go_wp2_with fail
 refine(i_IsReversed _ _).mono ?_;rintro e _ ⟨rfl,rfl⟩
 cases b2:isRev (curPart x).kind
 ·
  have HK:=Ac (curOk_3 (t:=t) b1 b2);have HA:=Ac (curAfter_3 b2)
  go_wp2_with fail
  refine(i_VerifyHop t _ _ _ _ (curHop x) _ (ha.ext (((((hx0.t hz1).t hx1).t hz2).t hx2).t hz3))).mono ?_;rintro e w5 ⟨rfl,hz5⟩
  cases b3:verHop t (curPart x).ts x.beta (curHop x)
  ·
   have HE:=Ac (HK.out.trans b3);have hR:=Aa (((((hz1.t hx1).t hz2).t hx2).t hz3).t hz5) HB0.out.2.2;have hO:=Aa (((hz2.t hx2).t hz3).t hz5) HB1.out;have oo:=Ba OO.out ((((hx1.t hz2).t hx2).t hz3).t hz5);have hsz:=((((hx1.t hz2).t hx2).t hz3).t hz5).size;have hso:w1.heap.size<w5.heap.size:=blk_lt hO;obtain⟨wc,hwc,hrc,hcc,hsc⟩:=pk_set hR (.int .i64 x.kind) (.int .i64 x.src) (.int .i64 x.dst) ((.slice o1 x.path.parts.length c1)) (.int .i64 x.pi) (.int .i64 x.hi) (.int .i64 x.beta) (.int .i64 x.rid) (.int .i64 x.seq) ((.slice o2 x.pay.length c2));have HOW:=Ac (An oo hcc (fun b hb e=>by have h1:=hb.1;have h2:=hb.2;simp at h1;omega));have HXX:=Ac (((((((hx0.t hz1).t hx1).t hz2).t hx2).t hz3).t hz5).chg1 hcc (by omega));have HWC:=Ac hwc;have hsz2:w5.heap.size=wc.heap.size:=hsc.symm;have HRC:=Ac hrc;have hRF:=fun o=>fr_of hR o
   have hOF:=fr_of hO 6;have gr0:=hRF 0;have gr1:=hRF 1;have gr2:=hRF 2;have gr3:=hRF 3;have gr4:=hRF 4;have gr5:=hRF 5;have gr6:=hRF 6;have gr7:=hRF 7;have gr8:=hRF 8;have gr9:=hRF 9;clear hRF hR hO oo hwc hrc hcc hsc
   try clear cf26
   try clear cf27
   try clear cf28
   try clear cf29
   try clear cf30
   try clear cf31
   try clear cf32
   have cf33:=blk2 (Aa (((((hz1.t hx1).t hz2).t hx2).t hz3).t hz5) HB0.out.1);have cf34:=blk10 (Aa (((((hz1.t hx1).t hz2).t hx2).t hz3).t hz5) HB0.out.2.1);have cf35:=blk10 (Aa (((((hz1.t hx1).t hz2).t hx2).t hz3).t hz5) HB0.out.2.2);have cf36:=blk10 (Aa (((hz2.t hx2).t hz3).t hz5) HB1.out);have cf37:=blk4 (Aa (hz3.t hz5) HB2.out.1);have cf38:=blk5 (Aa (hz3.t hz5) HB2.out.2);have cf39:=Ag ((hx2.t hz3).t hz5) hc
   go_wp2_with fail
   rw [← HWC.out];clear hOF gr0 gr1 gr2 gr3 gr4 gr5 gr6 gr7 gr8 gr9 cf33 cf34 cf35 cf36 cf37 cf38 cf39;have cc:=blk10 HRC.out;refine bodyPost_ret (by simp [results,Tryz.results179,go_sem,cc] <;> rfl) rfl ?_;rw [verCur_no HE.out,HE.out];exact⟨_,_,rfl,Az HOW.out (fun b hb=>⟨by have h1:=hb.1;simp at h1;omega,by have h2:=hb.2;omega⟩),HXX.out⟩
  have HE:=Ac (HK.out.trans b3);have hR:=Aa (((((hz1.t hx1).t hz2).t hx2).t hz3).t hz5) HB0.out.2.2;have hO:=Aa (((hz2.t hx2).t hz3).t hz5) HB1.out;have oo:=Ba OO.out ((((hx1.t hz2).t hx2).t hz3).t hz5);have hsz:=((((hx1.t hz2).t hx2).t hz3).t hz5).size;have hso:w1.heap.size<w5.heap.size:=blk_lt hO;obtain⟨wb,hwb,hob,hcb,hsb⟩:=cell_set hO 6 (.int .i64 (addMod x.beta (curHop x).mac));have hrb:=hcb.other hR (by omega);obtain⟨wc,hwc,hrc,hcc,hsc⟩:=pk_set hrb (.int .i64 x.kind) (.int .i64 x.src) (.int .i64 x.dst) ((.slice o1 x.path.parts.length c1)) (.int .i64 x.pi) (.int .i64 x.hi) (.int .i64 (addMod x.beta (curHop x).mac)) (.int .i64 x.rid) (.int .i64 x.seq) ((.slice o2 x.pay.length c2));have HOW:=Ac (An (An oo hcb (fun b hb e=>by have h1:=hb.1;have h2:=hb.2;simp at h1;omega)) hcc (fun b hb e=>by have h1:=hb.1;have h2:=hb.2;simp at h1;omega));have HXX:=Ac ((((((((hx0.t hz1).t hx1).t hz2).t hx2).t hz3).t hz5).chg1 hcb (by omega)).chg1 hcc (by omega));have HWC:=Ac (hwb ▸ hwc);have hsz2:w5.heap.size=wc.heap.size:=by rw [hsc,hsb]
  have HRC:=Ac hrc;have hRF:=fun o=>fr_of hR o
  have hOF:=fr_of hO 6;have gr0:=hRF 0;have gr1:=hRF 1;have gr2:=hRF 2;have gr3:=hRF 3;have gr4:=hRF 4;have gr5:=hRF 5;have gr6:=hRF 6;have gr7:=hRF 7;have gr8:=hRF 8;have gr9:=hRF 9;clear hRF hR hO oo hwb hob hcb hrb hsb hwc hrc hcc hsc
  try clear cf26
  try clear cf27
  try clear cf28
  try clear cf29
  try clear cf30
  try clear cf31
  try clear cf32
  have cf40:=blk2 (Aa (((((hz1.t hx1).t hz2).t hx2).t hz3).t hz5) HB0.out.1);have cf41:=blk10 (Aa (((((hz1.t hx1).t hz2).t hx2).t hz3).t hz5) HB0.out.2.1);have cf42:=blk10 (Aa (((((hz1.t hx1).t hz2).t hx2).t hz3).t hz5) HB0.out.2.2);have cf43:=blk10 (Aa (((hz2.t hx2).t hz3).t hz5) HB1.out);have cf44:=blk4 (Aa (hz3.t hz5) HB2.out.1);have cf45:=blk5 (Aa (hz3.t hz5) HB2.out.2);have cf46:=Ag ((hx2.t hz3).t hz5) hc
  go_wp2_with fail
  rw [← HWC.out];clear hOF gr0 gr1 gr2 gr3 gr4 gr5 gr6 gr7 gr8 gr9 cf40 cf41 cf42 cf43 cf44 cf45 cf46;have cc:=blk10 HRC.out;refine bodyPost_ret (by simp [results,Tryz.results179,go_sem,cc] <;> rfl) rfl ?_;rw [verCur_c HE.out,HE.out,HA.out];exact⟨_,_,rfl,Az HOW.out (fun b hb=>⟨by have h1:=hb.1;simp at h1;omega,by have h2:=hb.2;omega⟩),HXX.out⟩
 have HK:=Ac (curOk_2 (t:=t) b1 b2);have HA:=Ac (curAfter_2 b2)
 go_wp2_with fail
 refine(i_SubMod _ _ _).mono ?_;rintro e _ ⟨rfl,rfl⟩
 go_wp2_with fail
 refine(i_VerifyHop t _ _ _ _ (curHop x) _ (ha.ext (((((hx0.t hz1).t hx1).t hz2).t hx2).t hz3))).mono ?_;rintro e w7 ⟨rfl,hz7⟩
 cases b3:verHop t (curPart x).ts (subMod x.beta (curHop x).mac) (curHop x)
 ·
  have HE:=Ac (HK.out.trans b3);have hR:=Aa (((((hz1.t hx1).t hz2).t hx2).t hz3).t hz7) HB0.out.2.2;have hO:=Aa (((hz2.t hx2).t hz3).t hz7) HB1.out;have oo:=Ba OO.out ((((hx1.t hz2).t hx2).t hz3).t hz7);have hsz:=((((hx1.t hz2).t hx2).t hz3).t hz7).size;have hso:w1.heap.size<w7.heap.size:=blk_lt hO;obtain⟨wc,hwc,hrc,hcc,hsc⟩:=pk_set hR (.int .i64 x.kind) (.int .i64 x.src) (.int .i64 x.dst) ((.slice o1 x.path.parts.length c1)) (.int .i64 x.pi) (.int .i64 x.hi) (.int .i64 x.beta) (.int .i64 x.rid) (.int .i64 x.seq) ((.slice o2 x.pay.length c2));have HOW:=Ac (An oo hcc (fun b hb e=>by have h1:=hb.1;have h2:=hb.2;simp at h1;omega));have HXX:=Ac (((((((hx0.t hz1).t hx1).t hz2).t hx2).t hz3).t hz7).chg1 hcc (by omega));have HWC:=Ac hwc;have hsz2:w7.heap.size=wc.heap.size:=hsc.symm;have HRC:=Ac hrc;have hRF:=fun o=>fr_of hR o
  have hOF:=fr_of hO 6;have gr0:=hRF 0;have gr1:=hRF 1;have gr2:=hRF 2;have gr3:=hRF 3;have gr4:=hRF 4;have gr5:=hRF 5;have gr6:=hRF 6;have gr7:=hRF 7;have gr8:=hRF 8;have gr9:=hRF 9;clear hRF hR hO oo hwc hrc hcc hsc
  try clear cf26
  try clear cf27
  try clear cf28
  try clear cf29
  try clear cf30
  try clear cf31
  try clear cf32
  have cf47:=blk2 (Aa (((((hz1.t hx1).t hz2).t hx2).t hz3).t hz7) HB0.out.1);have cf48:=blk10 (Aa (((((hz1.t hx1).t hz2).t hx2).t hz3).t hz7) HB0.out.2.1);have cf49:=blk10 (Aa (((((hz1.t hx1).t hz2).t hx2).t hz3).t hz7) HB0.out.2.2);have cf50:=blk10 (Aa (((hz2.t hx2).t hz3).t hz7) HB1.out);have cf51:=blk4 (Aa (hz3.t hz7) HB2.out.1);have cf52:=blk5 (Aa (hz3.t hz7) HB2.out.2);have cf53:=Ag ((hx2.t hz3).t hz7) hc
  go_wp2_with fail
  rw [← HWC.out];clear hOF gr0 gr1 gr2 gr3 gr4 gr5 gr6 gr7 gr8 gr9 cf47 cf48 cf49 cf50 cf51 cf52 cf53;have cc:=blk10 HRC.out;refine bodyPost_ret (by simp [results,Tryz.results179,go_sem,cc] <;> rfl) rfl ?_;rw [verCur_no HE.out,HE.out];exact⟨_,_,rfl,Az HOW.out (fun b hb=>⟨by have h1:=hb.1;simp at h1;omega,by have h2:=hb.2;omega⟩),HXX.out⟩
 have HE:=Ac (HK.out.trans b3);have hR:=Aa (((((hz1.t hx1).t hz2).t hx2).t hz3).t hz7) HB0.out.2.2;have hO:=Aa (((hz2.t hx2).t hz3).t hz7) HB1.out;have oo:=Ba OO.out ((((hx1.t hz2).t hx2).t hz3).t hz7);have hsz:=((((hx1.t hz2).t hx2).t hz3).t hz7).size;have hso:w1.heap.size<w7.heap.size:=blk_lt hO;obtain⟨wb,hwb,hob,hcb,hsb⟩:=cell_set hO 6 (.int .i64 (subMod x.beta (curHop x).mac));have hrb:=hcb.other hR (by omega);obtain⟨wc,hwc,hrc,hcc,hsc⟩:=pk_set hrb (.int .i64 x.kind) (.int .i64 x.src) (.int .i64 x.dst) ((.slice o1 x.path.parts.length c1)) (.int .i64 x.pi) (.int .i64 x.hi) (.int .i64 (subMod x.beta (curHop x).mac)) (.int .i64 x.rid) (.int .i64 x.seq) ((.slice o2 x.pay.length c2));have HOW:=Ac (An (An oo hcb (fun b hb e=>by have h1:=hb.1;have h2:=hb.2;simp at h1;omega)) hcc (fun b hb e=>by have h1:=hb.1;have h2:=hb.2;simp at h1;omega));have HXX:=Ac ((((((((hx0.t hz1).t hx1).t hz2).t hx2).t hz3).t hz7).chg1 hcb (by omega)).chg1 hcc (by omega));have HWC:=Ac (hwb ▸ hwc);have hsz2:w7.heap.size=wc.heap.size:=by rw [hsc,hsb]
 have HRC:=Ac hrc;have hRF:=fun o=>fr_of hR o
 have hOF:=fr_of hO 6;have gr0:=hRF 0;have gr1:=hRF 1;have gr2:=hRF 2;have gr3:=hRF 3;have gr4:=hRF 4;have gr5:=hRF 5;have gr6:=hRF 6;have gr7:=hRF 7;have gr8:=hRF 8;have gr9:=hRF 9;clear hRF hR hO oo hwb hob hcb hrb hsb hwc hrc hcc hsc
 try clear cf26
 try clear cf27
 try clear cf28
 try clear cf29
 try clear cf30
 try clear cf31
 try clear cf32
 have cf54:=blk2 (Aa (((((hz1.t hx1).t hz2).t hx2).t hz3).t hz7) HB0.out.1);have cf55:=blk10 (Aa (((((hz1.t hx1).t hz2).t hx2).t hz3).t hz7) HB0.out.2.1);have cf56:=blk10 (Aa (((((hz1.t hx1).t hz2).t hx2).t hz3).t hz7) HB0.out.2.2);have cf57:=blk10 (Aa (((hz2.t hx2).t hz3).t hz7) HB1.out);have cf58:=blk4 (Aa (hz3.t hz7) HB2.out.1);have cf59:=blk5 (Aa (hz3.t hz7) HB2.out.2);have cf60:=Ag ((hx2.t hz3).t hz7) hc
 go_wp2_with fail
 rw [← HWC.out];clear hOF gr0 gr1 gr2 gr3 gr4 gr5 gr6 gr7 gr8 gr9 cf54 cf55 cf56 cf57 cf58 cf59 cf60;have cc:=blk10 HRC.out;refine bodyPost_ret (by simp [results,Tryz.results179,go_sem,cc] <;> rfl) rfl ?_;rw [verCur_c HE.out,HE.out,HA.out];exact⟨_,_,rfl,Az HOW.out (fun b hb=>⟨by have h1:=hb.1;simp at h1;omega,by have h2:=hb.2;omega⟩),HXX.out⟩
theorem s_VerifyCurrentHop (t:Topo) (va vk:Value) (x:Pkt) (v0 v1:Value) (w:World) (ha:RdS ASd.rep w va t.ases) (_:RdS Lnk.rep w vk t.links) (r0:RdS Part.rep w v0 x.path.parts) (r1:RdS Rep.byte w v1 x.pay) (hl:x.size≤1048576) :
  Calls Tryz.prog 152 #[.agg #[va,vk],.agg #[.int .i64 x.kind,.int .i64 x.src,.int .i64 x.dst,v0,.int .i64 x.pi,.int .i64 x.hi,.int .i64 x.beta,.int .i64 x.rid,.int .i64 x.seq,v1]] w fun e w'=>∃ u0 u1,e=.returned (.tuple #[.agg #[.int .i64 (verCur t x).kind,.int .i64 (verCur t x).src,.int .i64 (verCur t x).dst,u0,.int .i64 (verCur t x).pi,.int .i64 (verCur t x).hi,.int .i64 (verCur t x).beta,.int .i64 (verCur t x).rid,.int .i64 (verCur t x).seq,u1],.bool (curOk t x)])∧Pkt.own (rng w.heap.size w'.heap.size) w' u0 u1 (verCur t x)∧Ext w w':=by
 obtain⟨o,cap,rfl,hsm⟩:=r0.shape;obtain⟨hx0,HB0⟩:=ea3 w (.cells #[va,vk] 27) (.cells #[.int .i64 x.kind,.int .i64 x.src,.int .i64 x.dst,.slice o x.path.parts.length cap,.int .i64 x.pi,.int .i64 x.hi,.int .i64 x.beta,.int .i64 x.rid,.int .i64 x.seq,v1] 35) (.cells #[.int .i64 0,.int .i64 0,.int .i64 0,.slice none 0 0,.int .i64 0,.int .i64 0,.int .i64 0,.int .i64 0,.int .i64 0,.slice none 0 0] 35);replace HB0:=Ac HB0
 go_enter Tryz.func152,Tryz.ntmps152
 have cf1:=blk2 HB0.out.1;have cf2:=blk10 HB0.out.2.1;have cf3:=blk10 HB0.out.2.2
 go_wp2_with fail
 refine(s_l26Copy x _ _ _ (r0.ext hx0) (r1.ext hx0) hl).mono ?_;rintro e w1 ⟨u0,u1,rfl,oo,hz1⟩;obtain⟨o1,c1,rfl,_⟩:=(As oo).shape;obtain⟨o2,c2,rfl,_⟩:=(At oo).shape;have hs1:w.heap.size+1+1+1≤w1.heap.size:=by simpa using hz1.size
 have OO:=Ac oo;clear oo
 try clear cf1
 try clear cf2
 try clear cf3
 have cf4:=blk2 (Aa hz1 HB0.out.1);have cf5:=blk10 (Aa hz1 HB0.out.2.1);have cf6:=blk10 (Aa hz1 HB0.out.2.2);obtain⟨hx1,HB1⟩:=ea1 w1 (.cells #[.int .i64 x.kind,.int .i64 x.src,.int .i64 x.dst,(.slice o1 x.path.parts.length c1),.int .i64 x.pi,.int .i64 x.hi,.int .i64 x.beta,.int .i64 x.rid,.int .i64 x.seq,(.slice o2 x.pay.length c2)] 35);replace HB1:=Ac HB1;have cf7:=blk2 (Aa (hz1.t hx1) HB0.out.1);have cf8:=blk10 (Aa (hz1.t hx1) HB0.out.2.1);have cf9:=blk10 (Aa (hz1.t hx1) HB0.out.2.2);have cf10:=blk10 HB1.out
 go_wp2_with fail
 refine(s_CurrentAS x _ _ _ (r0.ext ((hx0.t hz1).t hx1))).mono ?_;rintro e w2 ⟨rfl,hz2⟩;have HCA:=Ac (show curAs x=if hasHop x then (curHop x).asn else -1 from rfl)
 by_cases b0:curAs x<0
 ·
  have HE:=Ac (curOk_neg (t:=t) b0);have hR:=Aa ((hz1.t hx1).t hz2) HB0.out.2.2;have hO:=Aa hz2 HB1.out;have oo:=Ba OO.out (hx1.t hz2);have hsz:=(hx1.t hz2).size;have hso:w1.heap.size<w2.heap.size:=blk_lt hO;obtain⟨wc,hwc,hrc,hcc,hsc⟩:=pk_set hR (.int .i64 x.kind) (.int .i64 x.src) (.int .i64 x.dst) ((.slice o1 x.path.parts.length c1)) (.int .i64 x.pi) (.int .i64 x.hi) (.int .i64 x.beta) (.int .i64 x.rid) (.int .i64 x.seq) ((.slice o2 x.pay.length c2));have HOW:=Ac (An oo hcc (fun b hb e=>by have h1:=hb.1;have h2:=hb.2;simp at h1;omega));have HXX:=Ac ((((hx0.t hz1).t hx1).t hz2).chg1 hcc (by omega));have HWC:=Ac hwc;have hsz2:w2.heap.size=wc.heap.size:=hsc.symm;have HRC:=Ac hrc;have hRF:=fun o=>fr_of hR o
  have hOF:=fr_of hO 6;have gr0:=hRF 0;have gr1:=hRF 1;have gr2:=hRF 2;have gr3:=hRF 3;have gr4:=hRF 4;have gr5:=hRF 5;have gr6:=hRF 6;have gr7:=hRF 7;have gr8:=hRF 8;have gr9:=hRF 9;clear hRF hR hO oo hwc hrc hcc hsc
  try clear cf7
  try clear cf8
  try clear cf9
  try clear cf10
  have cf11:=blk2 (Aa ((hz1.t hx1).t hz2) HB0.out.1);have cf12:=blk10 (Aa ((hz1.t hx1).t hz2) HB0.out.2.1);have cf13:=blk10 (Aa ((hz1.t hx1).t hz2) HB0.out.2.2);have cf14:=blk10 (Aa hz2 HB1.out)
  go_wp2_with fail
  rw [← HWC.out];clear hOF gr0 gr1 gr2 gr3 gr4 gr5 gr6 gr7 gr8 gr9 cf11 cf12 cf13 cf14;have cc:=blk10 HRC.out;refine bodyPost_ret (by simp [results,Tryz.results152,go_sem,cc] <;> rfl) rfl ?_;rw [verCur_no HE.out,HE.out];exact⟨_,_,rfl,Az HOW.out (fun b hb=>⟨by have h1:=hb.1;simp at h1;omega,by have h2:=hb.2;omega⟩),HXX.out⟩
 have b1:hasHop x=true:=curAs_has b0;obtain⟨⟨p0,p1,p2⟩,q0,q1,q2⟩:=hasHop_parts b1;have hcp:=curPart_at p2;obtain⟨b,off,oh,ch,rfl,hc,hr⟩:=Bx (r0.ext (((hx0.t hz1).t hx1).t hz2)) x.pi.toNat p2;rw [← hcp] at hc hr;clear hcp;have hch:=curHop_at q2
 try clear cf7
 try clear cf8
 try clear cf9
 try clear cf10
 have cf15:=blk2 (Aa ((hz1.t hx1).t hz2) HB0.out.1);have cf16:=blk10 (Aa ((hz1.t hx1).t hz2) HB0.out.2.1);have cf17:=blk10 (Aa ((hz1.t hx1).t hz2) HB0.out.2.2);have cf18:=blk10 (Aa hz2 HB1.out);have em:=(Ab w2).alloc (.cells #[.int .i64 (curPart x).kind,.int .i64 (curPart x).ts,.int .i64 (curPart x).beta,.slice oh (curPart x).hops.length ch] 99);have cm1:=blk10 (Aa (((hz1.t hx1).t hz2).trans em) HB0.out.2.1);obtain⟨b3,off3,rfl,ht⟩:=Ca hr x.hi.toNat q2;rw [← hch] at ht;have ht2:=hopc_ext em ht;clear hch;obtain⟨hx2,HB2⟩:=ea2 w2 (.cells #[.int .i64 (curPart x).kind,.int .i64 (curPart x).ts,.int .i64 (curPart x).beta,.slice (some ⟨b3,off3,none⟩) (curPart x).hops.length ch] 99) (.cells #[.int .i64 (curHop x).asn,.int .i64 (curHop x).ing,.int .i64 (curHop x).eg,.int .i64 (curHop x).exp,.int .i64 (curHop x).mac] 103);replace HB2:=Ac HB2;have cf19:=blk2 (Aa (((hz1.t hx1).t hz2).t hx2) HB0.out.1);have cf20:=blk10 (Aa (((hz1.t hx1).t hz2).t hx2) HB0.out.2.1);have cf21:=blk10 (Aa (((hz1.t hx1).t hz2).t hx2) HB0.out.2.2);have cf22:=blk10 (Aa (hz2.t hx2) HB1.out);have cf23:=blk4 HB2.out.1;have cf24:=blk5 HB2.out.2;have cf25:=Ag hx2 hc
 go_wp2_with fail
 refine(s_IsReversed _ _).mono ?_;rintro e _ ⟨rfl,rfl⟩
 cases b2:isRev (curPart x).kind
 ·
  have HK:=Ac (curOk_3 (t:=t) b1 b2);have HA:=Ac (curAfter_3 b2)
  go_wp2_with fail
  refine(s_VerifyHop t _ _ _ _ (curHop x) _ (ha.ext ((((hx0.t hz1).t hx1).t hz2).t hx2))).mono ?_;rintro e w4 ⟨rfl,hz4⟩
  cases b3:verHop t (curPart x).ts x.beta (curHop x)
  ·
   have HE:=Ac (HK.out.trans b3);have hR:=Aa ((((hz1.t hx1).t hz2).t hx2).t hz4) HB0.out.2.2;have hO:=Aa ((hz2.t hx2).t hz4) HB1.out;have oo:=Ba OO.out (((hx1.t hz2).t hx2).t hz4);have hsz:=(((hx1.t hz2).t hx2).t hz4).size;have hso:w1.heap.size<w4.heap.size:=blk_lt hO;obtain⟨wc,hwc,hrc,hcc,hsc⟩:=pk_set hR (.int .i64 x.kind) (.int .i64 x.src) (.int .i64 x.dst) ((.slice o1 x.path.parts.length c1)) (.int .i64 x.pi) (.int .i64 x.hi) (.int .i64 x.beta) (.int .i64 x.rid) (.int .i64 x.seq) ((.slice o2 x.pay.length c2));have HOW:=Ac (An oo hcc (fun b hb e=>by have h1:=hb.1;have h2:=hb.2;simp at h1;omega));have HXX:=Ac ((((((hx0.t hz1).t hx1).t hz2).t hx2).t hz4).chg1 hcc (by omega));have HWC:=Ac hwc;have hsz2:w4.heap.size=wc.heap.size:=hsc.symm;have HRC:=Ac hrc;have hRF:=fun o=>fr_of hR o
   have hOF:=fr_of hO 6;have gr0:=hRF 0;have gr1:=hRF 1;have gr2:=hRF 2;have gr3:=hRF 3;have gr4:=hRF 4;have gr5:=hRF 5;have gr6:=hRF 6;have gr7:=hRF 7;have gr8:=hRF 8;have gr9:=hRF 9;clear hRF hR hO oo hwc hrc hcc hsc
   try clear cf19
   try clear cf20
   try clear cf21
   try clear cf22
   try clear cf23
   try clear cf24
   try clear cf25
   have cf26:=blk2 (Aa ((((hz1.t hx1).t hz2).t hx2).t hz4) HB0.out.1);have cf27:=blk10 (Aa ((((hz1.t hx1).t hz2).t hx2).t hz4) HB0.out.2.1);have cf28:=blk10 (Aa ((((hz1.t hx1).t hz2).t hx2).t hz4) HB0.out.2.2);have cf29:=blk10 (Aa ((hz2.t hx2).t hz4) HB1.out);have cf30:=blk4 (Aa hz4 HB2.out.1);have cf31:=blk5 (Aa hz4 HB2.out.2);have cf32:=Ag (hx2.t hz4) hc
   go_wp2_with fail
   rw [← HWC.out];clear hOF gr0 gr1 gr2 gr3 gr4 gr5 gr6 gr7 gr8 gr9 cf26 cf27 cf28 cf29 cf30 cf31 cf32;have cc:=blk10 HRC.out;refine bodyPost_ret (by simp [results,Tryz.results152,go_sem,cc] <;> rfl) rfl ?_;rw [verCur_no HE.out,HE.out];exact⟨_,_,rfl,Az HOW.out (fun b hb=>⟨by have h1:=hb.1;simp at h1;omega,by have h2:=hb.2;omega⟩),HXX.out⟩
  have HE:=Ac (HK.out.trans b3)
  try clear cf19
  try clear cf20
  try clear cf21
  try clear cf22
  try clear cf23
  try clear cf24
  try clear cf25
  have cf33:=blk2 (Aa ((((hz1.t hx1).t hz2).t hx2).t hz4) HB0.out.1);have cf34:=blk10 (Aa ((((hz1.t hx1).t hz2).t hx2).t hz4) HB0.out.2.1);have cf35:=blk10 (Aa ((((hz1.t hx1).t hz2).t hx2).t hz4) HB0.out.2.2);have cf36:=blk10 (Aa ((hz2.t hx2).t hz4) HB1.out);have cf37:=blk4 (Aa hz4 HB2.out.1);have cf38:=blk5 (Aa hz4 HB2.out.2);have cf39:=Ag (hx2.t hz4) hc
  go_wp2_with fail
  refine(s_AddMod _ _ _).mono ?_;rintro e _ ⟨rfl,rfl⟩;have hR:=Aa ((((hz1.t hx1).t hz2).t hx2).t hz4) HB0.out.2.2;have hO:=Aa ((hz2.t hx2).t hz4) HB1.out;have oo:=Ba OO.out (((hx1.t hz2).t hx2).t hz4);have hsz:=(((hx1.t hz2).t hx2).t hz4).size;have hso:w1.heap.size<w4.heap.size:=blk_lt hO;obtain⟨wb,hwb,hob,hcb,hsb⟩:=cell_set hO 6 (.int .i64 (addMod x.beta (curHop x).mac));have hrb:=hcb.other hR (by omega);obtain⟨wc,hwc,hrc,hcc,hsc⟩:=pk_set hrb (.int .i64 x.kind) (.int .i64 x.src) (.int .i64 x.dst) ((.slice o1 x.path.parts.length c1)) (.int .i64 x.pi) (.int .i64 x.hi) (.int .i64 (addMod x.beta (curHop x).mac)) (.int .i64 x.rid) (.int .i64 x.seq) ((.slice o2 x.pay.length c2));have HOW:=Ac (An (An oo hcb (fun b hb e=>by have h1:=hb.1;have h2:=hb.2;simp at h1;omega)) hcc (fun b hb e=>by have h1:=hb.1;have h2:=hb.2;simp at h1;omega));have HXX:=Ac (((((((hx0.t hz1).t hx1).t hz2).t hx2).t hz4).chg1 hcb (by omega)).chg1 hcc (by omega));have HWC:=Ac (hwb ▸ hwc);have hsz2:w4.heap.size=wc.heap.size:=by rw [hsc,hsb]
  have HRC:=Ac hrc;have hRF:=fun o=>fr_of hR o
  have hOF:=fr_of hO 6;have gr0:=hRF 0;have gr1:=hRF 1;have gr2:=hRF 2;have gr3:=hRF 3;have gr4:=hRF 4;have gr5:=hRF 5;have gr6:=hRF 6;have gr7:=hRF 7;have gr8:=hRF 8;have gr9:=hRF 9;clear hRF hR hO oo hwb hob hcb hrb hsb hwc hrc hcc hsc
  go_wp2_with fail
  rw [← HWC.out];clear hOF gr0 gr1 gr2 gr3 gr4 gr5 gr6 gr7 gr8 gr9 cf33 cf34 cf35 cf36 cf37 cf38 cf39;have cc:=blk10 HRC.out;refine bodyPost_ret (by simp [results,Tryz.results152,go_sem,cc] <;> rfl) rfl ?_;rw [verCur_c HE.out,HE.out,HA.out];exact⟨_,_,rfl,Az HOW.out (fun b hb=>⟨by have h1:=hb.1;simp at h1;omega,by have h2:=hb.2;omega⟩),HXX.out⟩
 have HK:=Ac (curOk_2 (t:=t) b1 b2);have HA:=Ac (curAfter_2 b2)
 go_wp2_with fail
 refine(s_SubMod _ _ _).mono ?_;rintro e _ ⟨rfl,rfl⟩
 go_wp2_with fail
 refine(s_VerifyHop t _ _ _ _ (curHop x) _ (ha.ext ((((hx0.t hz1).t hx1).t hz2).t hx2))).mono ?_;rintro e w7 ⟨rfl,hz7⟩
 cases b3:verHop t (curPart x).ts (subMod x.beta (curHop x).mac) (curHop x)
 ·
  have HE:=Ac (HK.out.trans b3);have hR:=Aa ((((hz1.t hx1).t hz2).t hx2).t hz7) HB0.out.2.2;have hO:=Aa ((hz2.t hx2).t hz7) HB1.out;have oo:=Ba OO.out (((hx1.t hz2).t hx2).t hz7);have hsz:=(((hx1.t hz2).t hx2).t hz7).size;have hso:w1.heap.size<w7.heap.size:=blk_lt hO;obtain⟨wc,hwc,hrc,hcc,hsc⟩:=pk_set hR (.int .i64 x.kind) (.int .i64 x.src) (.int .i64 x.dst) ((.slice o1 x.path.parts.length c1)) (.int .i64 x.pi) (.int .i64 x.hi) (.int .i64 x.beta) (.int .i64 x.rid) (.int .i64 x.seq) ((.slice o2 x.pay.length c2));have HOW:=Ac (An oo hcc (fun b hb e=>by have h1:=hb.1;have h2:=hb.2;simp at h1;omega));have HXX:=Ac ((((((hx0.t hz1).t hx1).t hz2).t hx2).t hz7).chg1 hcc (by omega));have HWC:=Ac hwc;have hsz2:w7.heap.size=wc.heap.size:=hsc.symm;have HRC:=Ac hrc;have hRF:=fun o=>fr_of hR o
  have hOF:=fr_of hO 6;have gr0:=hRF 0;have gr1:=hRF 1;have gr2:=hRF 2;have gr3:=hRF 3;have gr4:=hRF 4;have gr5:=hRF 5;have gr6:=hRF 6;have gr7:=hRF 7;have gr8:=hRF 8;have gr9:=hRF 9;clear hRF hR hO oo hwc hrc hcc hsc
  try clear cf19
  try clear cf20
  try clear cf21
  try clear cf22
  try clear cf23
  try clear cf24
  try clear cf25
  have cf40:=blk2 (Aa ((((hz1.t hx1).t hz2).t hx2).t hz7) HB0.out.1);have cf41:=blk10 (Aa ((((hz1.t hx1).t hz2).t hx2).t hz7) HB0.out.2.1);have cf42:=blk10 (Aa ((((hz1.t hx1).t hz2).t hx2).t hz7) HB0.out.2.2);have cf43:=blk10 (Aa ((hz2.t hx2).t hz7) HB1.out);have cf44:=blk4 (Aa hz7 HB2.out.1);have cf45:=blk5 (Aa hz7 HB2.out.2);have cf46:=Ag (hx2.t hz7) hc
  go_wp2_with fail
  rw [← HWC.out];clear hOF gr0 gr1 gr2 gr3 gr4 gr5 gr6 gr7 gr8 gr9 cf40 cf41 cf42 cf43 cf44 cf45 cf46;have cc:=blk10 HRC.out;refine bodyPost_ret (by simp [results,Tryz.results152,go_sem,cc] <;> rfl) rfl ?_;rw [verCur_no HE.out,HE.out];exact⟨_,_,rfl,Az HOW.out (fun b hb=>⟨by have h1:=hb.1;simp at h1;omega,by have h2:=hb.2;omega⟩),HXX.out⟩
 have HE:=Ac (HK.out.trans b3);have hR:=Aa ((((hz1.t hx1).t hz2).t hx2).t hz7) HB0.out.2.2;have hO:=Aa ((hz2.t hx2).t hz7) HB1.out;have oo:=Ba OO.out (((hx1.t hz2).t hx2).t hz7);have hsz:=(((hx1.t hz2).t hx2).t hz7).size;have hso:w1.heap.size<w7.heap.size:=blk_lt hO;obtain⟨wb,hwb,hob,hcb,hsb⟩:=cell_set hO 6 (.int .i64 (subMod x.beta (curHop x).mac));have hrb:=hcb.other hR (by omega);obtain⟨wc,hwc,hrc,hcc,hsc⟩:=pk_set hrb (.int .i64 x.kind) (.int .i64 x.src) (.int .i64 x.dst) ((.slice o1 x.path.parts.length c1)) (.int .i64 x.pi) (.int .i64 x.hi) (.int .i64 (subMod x.beta (curHop x).mac)) (.int .i64 x.rid) (.int .i64 x.seq) ((.slice o2 x.pay.length c2));have HOW:=Ac (An (An oo hcb (fun b hb e=>by have h1:=hb.1;have h2:=hb.2;simp at h1;omega)) hcc (fun b hb e=>by have h1:=hb.1;have h2:=hb.2;simp at h1;omega));have HXX:=Ac (((((((hx0.t hz1).t hx1).t hz2).t hx2).t hz7).chg1 hcb (by omega)).chg1 hcc (by omega));have HWC:=Ac (hwb ▸ hwc);have hsz2:w7.heap.size=wc.heap.size:=by rw [hsc,hsb]
 have HRC:=Ac hrc;have hRF:=fun o=>fr_of hR o
 have hOF:=fr_of hO 6;have gr0:=hRF 0;have gr1:=hRF 1;have gr2:=hRF 2;have gr3:=hRF 3;have gr4:=hRF 4;have gr5:=hRF 5;have gr6:=hRF 6;have gr7:=hRF 7;have gr8:=hRF 8;have gr9:=hRF 9;clear hRF hR hO oo hwb hob hcb hrb hsb hwc hrc hcc hsc
 try clear cf19
 try clear cf20
 try clear cf21
 try clear cf22
 try clear cf23
 try clear cf24
 try clear cf25
 have cf47:=blk2 (Aa ((((hz1.t hx1).t hz2).t hx2).t hz7) HB0.out.1);have cf48:=blk10 (Aa ((((hz1.t hx1).t hz2).t hx2).t hz7) HB0.out.2.1);have cf49:=blk10 (Aa ((((hz1.t hx1).t hz2).t hx2).t hz7) HB0.out.2.2);have cf50:=blk10 (Aa ((hz2.t hx2).t hz7) HB1.out);have cf51:=blk4 (Aa hz7 HB2.out.1);have cf52:=blk5 (Aa hz7 HB2.out.2);have cf53:=Ag (hx2.t hz7) hc
 go_wp2_with fail
 rw [← HWC.out];clear hOF gr0 gr1 gr2 gr3 gr4 gr5 gr6 gr7 gr8 gr9 cf47 cf48 cf49 cf50 cf51 cf52 cf53;have cc:=blk10 HRC.out;refine bodyPost_ret (by simp [results,Tryz.results152,go_sem,cc] <;> rfl) rfl ?_;rw [verCur_c HE.out,HE.out,HA.out];exact⟨_,_,rfl,Az HOW.out (fun b hb=>⟨by have h1:=hb.1;simp at h1;omega,by have h2:=hb.2;omega⟩),HXX.out⟩
end
abbrev Cc := @hasHop_parts
end Go.Proofs.YteodlcpeoaggbaaGreat
