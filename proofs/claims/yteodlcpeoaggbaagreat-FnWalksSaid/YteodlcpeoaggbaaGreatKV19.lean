/- What these laws need: FnOld, FnWalks: Contracts of going on to the next hop, of its time, and of the check of a hop, program and reference. Contracts of the check of a hop and of what becomes of a packet at an AS, program and reference. -/
import Derived.Test.YteodlcpeoaggbaaGreatKV18
namespace Go.Proofs.YteodlcpeoaggbaaGreat
section
open Go.ChangeShapes Go.WideShapes Go.ChangeAt Go.RowKit Go.Deep
set_option maxRecDepth 100000
set_option maxHeartbeats 16000000
theorem adv_1 {x:Pkt} (h:curAs x<0):advance x=x:=by unfold advance;rw [decide_eq_true h];rfl
theorem adv_2 {x:Pkt} (h:atLast x=true):advance x=x:=by unfold advance;rw [h];simp
theorem adv_3 {x:Pkt} (h:¬ curAs x<0) (h2:atLast x=false) (h3:lastOf x=true):advance x={ x with pi:=x.pi+1,hi:=0,beta:=(partAt x.path.parts (x.pi.toNat+1)).beta }:=by
 unfold advance;rw [decide_eq_false h,h2,h3];rfl
theorem adv_4 {x:Pkt} (h:¬ curAs x<0) (h2:atLast x=false) (h3:lastOf x=false):advance x={ x with hi:=x.hi+1 }:=by
 unfold advance;rw [decide_eq_false h,h2,h3];rfl
theorem adv_next {x:Pkt} (h:¬ curAs x<0) (h2:atLast x=false) (h3:lastOf x=true):x.pi.toNat+1<x.path.parts.length:=by
 obtain⟨⟨p0,p1,p2⟩,_⟩:=Cc (curAs_has h);unfold atLast at h2;rw [decide_eq_true (show 0≤curAs x by omega),h3] at h2;have h4:(x.pi == (x.path.parts.length:Int) - 1)=false:=by simpa using h2
 rw [beq_eq_false_iff_ne] at h4;omega
theorem lastOf_lt {x:Pkt} (h:¬ curAs x<0):lastOf x=!(decide (x.hi<((curPart x).hops.length:Int) - 1)):=by
 obtain⟨_,q0,q1,q2⟩:=Cc (curAs_has h);unfold lastOf
 by_cases e:x.hi<((curPart x).hops.length:Int) - 1
 ·
  rw [decide_eq_true e,beq_eq_false_iff_ne.2 (by omega)];rfl
 rw [decide_eq_false e,beq_iff_eq.2 (by omega)];rfl
theorem curIn_1 {x:Pkt} {now:Int} (h:curAs x<0):curIn x now=false:=by unfold curIn;rw [decide_eq_false (by omega)];rfl
theorem curIn_2 {x:Pkt} {now:Int} (h:¬ curAs x<0):curIn x now=(decide ((curPart x).ts≤now) && decide (now≤(curHop x).exp)):=by unfold curIn;rw [decide_eq_true (show 0≤curAs x by omega)];rfl
theorem i_AdvanceHop (x:Pkt) (v0 v1:Value) (w:World) (r0:RdS Part.rep w v0 x.path.parts) (r1:RdS Rep.byte w v1 x.pay) (hl:x.size≤1048576) :
  Calls Tryz.prog 145 #[.agg #[.int .i64 x.kind,.int .i64 x.src,.int .i64 x.dst,v0,.int .i64 x.pi,.int .i64 x.hi,.int .i64 x.beta,.int .i64 x.rid,.int .i64 x.seq,v1]] w fun e w'=>∃ u0 u1,e=.returned (.agg #[.int .i64 (advance x).kind,.int .i64 (advance x).src,.int .i64 (advance x).dst,u0,.int .i64 (advance x).pi,.int .i64 (advance x).hi,.int .i64 (advance x).beta,.int .i64 (advance x).rid,.int .i64 (advance x).seq,u1])∧Pkt.own (rng w.heap.size w'.heap.size) w' u0 u1 (advance x)∧Ext w w':=by
 obtain⟨o,cap,rfl,hsm⟩:=r0.shape;obtain⟨hx0,HB0⟩:=ea2 w (.cells #[.int .i64 x.kind,.int .i64 x.src,.int .i64 x.dst,.slice o x.path.parts.length cap,.int .i64 x.pi,.int .i64 x.hi,.int .i64 x.beta,.int .i64 x.rid,.int .i64 x.seq,v1] 35) (.cells #[.int .i64 0,.int .i64 0,.int .i64 0,.slice none 0 0,.int .i64 0,.int .i64 0,.int .i64 0,.int .i64 0,.int .i64 0,.slice none 0 0] 35);replace HB0:=Ac HB0
 go_enter Tryz.func145,Tryz.ntmps145
 have cf1:=blk10 HB0.out.1;have cf2:=blk10 HB0.out.2
 go_wp2_with fail
 refine(i_copyPacket x _ _ _ (r0.ext hx0) (r1.ext hx0) hl).mono ?_;rintro e w1 ⟨u0,u1,rfl,oo,hz1⟩;obtain⟨o1,c1,rfl,_⟩:=(As oo).shape;obtain⟨o2,c2,rfl,_⟩:=(At oo).shape;have hs1:w.heap.size+1+1≤w1.heap.size:=by simpa using hz1.size
 have OO:=Ac oo;clear oo
 try clear cf1
 try clear cf2
 have cf3:=blk10 (Aa hz1 HB0.out.1);have cf4:=blk10 (Aa hz1 HB0.out.2);obtain⟨hx1,HB1⟩:=ea1 w1 (.cells #[.int .i64 x.kind,.int .i64 x.src,.int .i64 x.dst,(.slice o1 x.path.parts.length c1),.int .i64 x.pi,.int .i64 x.hi,.int .i64 x.beta,.int .i64 x.rid,.int .i64 x.seq,(.slice o2 x.pay.length c2)] 35);replace HB1:=Ac HB1;have cf5:=blk10 (Aa (hz1.t hx1) HB0.out.1);have cf6:=blk10 (Aa (hz1.t hx1) HB0.out.2);have cf7:=blk10 HB1.out
 go_wp2_with fail
 refine(i_CurrentAS x _ _ _ (r0.ext ((hx0.t hz1).t hx1))).mono ?_;rintro e w2 ⟨rfl,hz2⟩
 by_cases b0:curAs x<0
 ·
  have hsz:=(hx1.t hz2).size;have hso:w1.heap.size<w2.heap.size:=blk_lt (Aa hz2 HB1.out);have hR:=Aa ((hz1.t hx1).t hz2) HB0.out.2;have hO:=Aa hz2 HB1.out;obtain⟨wc,hwc,hrc,hcc,hsc⟩:=pk_set hR (.int .i64 x.kind) (.int .i64 x.src) (.int .i64 x.dst) ((.slice o1 x.path.parts.length c1)) (.int .i64 x.pi) (.int .i64 x.hi) (.int .i64 x.beta) (.int .i64 x.rid) (.int .i64 x.seq) ((.slice o2 x.pay.length c2));have HOW:=Ac (An (Ba OO.out (hx1.t hz2)) hcc (fun b hb e=>by have h1:=hb.1;have h2:=hb.2;simp at h1;omega));have HXX:=Ac ((((hx0.t hz1).t hx1).t hz2).chg1 hcc (by omega));have HWC:=Ac hwc;have HRC:=Ac hrc;have hsz2:w2.heap.size=wc.heap.size:=by rw [hsc]
  have gr0:=fr10 hR;clear hR hO hwc hrc hcc hsc
  try clear cf5
  try clear cf6
  try clear cf7
  have cf8:=blk10 (Aa ((hz1.t hx1).t hz2) HB0.out.1);have cf9:=blk10 (Aa ((hz1.t hx1).t hz2) HB0.out.2);have cf10:=blk10 (Aa hz2 HB1.out)
  go_wp2_with fail
  rw [← HWC.out];clear gr0 cf8 cf9 cf10;have cc:=blk10 HRC.out;refine bodyPost_ret (by simp [results,Tryz.results145,go_sem,cc] <;> rfl) rfl ?_;rw [adv_1 (x:=x) (by omega)];exact⟨_,_,rfl,Az HOW.out (fun b hb=>⟨by have h1:=hb.1;simp at h1;omega,by have h2:=hb.2;omega⟩),HXX.out⟩
 try clear cf5
 try clear cf6
 try clear cf7
 have cf11:=blk10 (Aa ((hz1.t hx1).t hz2) HB0.out.1);have cf12:=blk10 (Aa ((hz1.t hx1).t hz2) HB0.out.2);have cf13:=blk10 (Aa hz2 HB1.out)
 go_wp2_with fail
 refine(i_AtLastHop x _ _ _ (r0.ext (((hx0.t hz1).t hx1).t hz2))).mono ?_;rintro e w3 ⟨rfl,hz3⟩
 cases b1:atLast x
 ·
  obtain⟨⟨p0,p1,p2⟩,q0,q1,q2⟩:=Cc (curAs_has (x:=x) (by omega));have hcp:=curPart_at p2;obtain⟨b,off,oh,ch,eo,hc,hr⟩:=Bx (r0.ext ((((hx0.t hz1).t hx1).t hz2).t hz3)) x.pi.toNat p2;rw [← hcp] at hc hr;clear hcp;have hlh:(curPart x).hops.length≤9223372036854775807:=by obtain⟨_,_,_,h⟩:=hr.shape;exact h
  clear eo hc hr
  try clear cf11
  try clear cf12
  try clear cf13
  have cf14:=blk10 (Aa (((hz1.t hx1).t hz2).t hz3) HB0.out.1);have cf15:=blk10 (Aa (((hz1.t hx1).t hz2).t hz3) HB0.out.2);have cf16:=blk10 (Aa (hz2.t hz3) HB1.out)
  go_wp2_with fail
  refine(i_lastOfPart x _ _ _ (r0.ext ((((hx0.t hz1).t hx1).t hz2).t hz3)) p0 p2).mono ?_;rintro e w4 ⟨rfl,hz4⟩
  cases b2:lastOf x
  ·
   have HV:=Ac (adv_4 (x:=x) (by omega) b1 b2);have q3:x.hi+1≤9223372036854775807:=by have:=hlh;omega
   have hsz:=(((hx1.t hz2).t hz3).t hz4).size;have hso:w1.heap.size<w4.heap.size:=blk_lt (Aa ((hz2.t hz3).t hz4) HB1.out);have hR:=Aa ((((hz1.t hx1).t hz2).t hz3).t hz4) HB0.out.2;have hO:=Aa ((hz2.t hz3).t hz4) HB1.out;obtain⟨wq0,hwq0,hoq0,hcq0,hsq0⟩:=cell_set hO 5 (.int .i64 (x.hi+1));have hrq0:=hcq0.other hR (by omega);obtain⟨wc,hwc,hrc,hcc,hsc⟩:=pk_set hrq0 (.int .i64 x.kind) (.int .i64 x.src) (.int .i64 x.dst) ((.slice o1 x.path.parts.length c1)) (.int .i64 x.pi) (.int .i64 (x.hi+1)) (.int .i64 x.beta) (.int .i64 x.rid) (.int .i64 x.seq) ((.slice o2 x.pay.length c2));have HOW:=Ac (An (An (Ba OO.out (((hx1.t hz2).t hz3).t hz4)) hcq0 (fun b hb e=>by have h1:=hb.1;have h2:=hb.2;simp at h1;omega)) hcc (fun b hb e=>by have h1:=hb.1;have h2:=hb.2;simp at h1;omega));have hwc2:=hwc;rw [hwq0] at hwc2;have HXX:=Ac (((((((hx0.t hz1).t hx1).t hz2).t hz3).t hz4).chg1 hcq0 (by omega)).chg1 hcc (by omega));have HWC:=Ac hwc2;have HRC:=Ac hrc;have hsz2:w4.heap.size=wc.heap.size:=by rw [hsc,hsq0]
   have gr0:=fr10 hR;have hOF:=fun o=>fr_of hO o
   have go5:=hOF 5;clear hOF;clear hR hO hwq0 hoq0 hcq0 hrq0 hwc2 hwc hrc hcc hsc hsq0
   try clear cf14
   try clear cf15
   try clear cf16
   have cf17:=blk10 (Aa ((((hz1.t hx1).t hz2).t hz3).t hz4) HB0.out.1);have cf18:=blk10 (Aa ((((hz1.t hx1).t hz2).t hz3).t hz4) HB0.out.2);have cf19:=blk10 (Aa ((hz2.t hz3).t hz4) HB1.out)
   go_wp2_with fail
   rw [← HWC.out];clear gr0 go5 cf17 cf18 cf19;have cc:=blk10 HRC.out;refine bodyPost_ret (by simp [results,Tryz.results145,go_sem,cc] <;> rfl) rfl ?_;rw [HV.out];exact⟨_,_,rfl,Az HOW.out (fun b hb=>⟨by have h1:=hb.1;simp at h1;omega,by have h2:=hb.2;omega⟩),HXX.out⟩
  have p3:=adv_next (x:=x) (by omega) b1 b2;have p4:(x.pi+1).toNat<x.path.parts.length:=by omega
  have HAT:=Ac (show(partAt x.path.parts (x.pi.toNat+1)).beta=x.path.parts[(x.pi+1).toNat].beta by rw [Cf p3];simp only [show(x.pi+1).toNat=x.pi.toNat+1 by omega]);have HV:=Ac ((adv_3 (x:=x) (by omega) b1 b2).trans (by rw [HAT.out]));have p5:x.pi+1<(x.path.parts.length:Int):=by omega
  have p6:0≤x.pi+1:=by omega
  obtain⟨bb,ff,oh2,ch2,e2,hd0,_⟩:=Bx r0 (x.pi+1).toNat p4
  cases e2
  have hbo:bb<w.heap.size:=World.block_lt_of_cell? w ⟨bb,ff+(x.pi+1).toNat * 4,none⟩ hd0.1;have hbn1:bb≠w1.heap.size:=by omega
  have hbn2:w.heap.size≠w1.heap.size:=by omega
  have hsz:=(((hx1.t hz2).t hz3).t hz4).size;have hso:w1.heap.size<w4.heap.size:=blk_lt (Aa ((hz2.t hz3).t hz4) HB1.out);have hR:=Aa ((((hz1.t hx1).t hz2).t hz3).t hz4) HB0.out.2;have hO:=Aa ((hz2.t hz3).t hz4) HB1.out;obtain⟨wq0,hwq0,hoq0,hcq0,hsq0⟩:=cell_set hO 4 (.int .i64 (x.pi+1));have hrq0:=hcq0.other hR (by omega);obtain⟨wq1,hwq1,hoq1,hcq1,hsq1⟩:=cell_set hoq0 5 (.int .i64 0);have hrq1:=hcq1.other hrq0 (by omega);obtain⟨wq2,hwq2,hoq2,hcq2,hsq2⟩:=cell_set hoq1 6 (.int .i64 x.path.parts[(x.pi+1).toNat].beta);have hrq2:=hcq2.other hrq1 (by omega);obtain⟨wc,hwc,hrc,hcc,hsc⟩:=pk_set hrq2 (.int .i64 x.kind) (.int .i64 x.src) (.int .i64 x.dst) ((.slice o1 x.path.parts.length c1)) (.int .i64 (x.pi+1)) (.int .i64 (0)) (.int .i64 (x.path.parts[(x.pi+1).toNat].beta)) (.int .i64 x.rid) (.int .i64 x.seq) ((.slice o2 x.pay.length c2));have HOW:=Ac (An (An (An (An (Ba OO.out (((hx1.t hz2).t hz3).t hz4)) hcq0 (fun b hb e=>by have h1:=hb.1;have h2:=hb.2;simp at h1;omega)) hcq1 (fun b hb e=>by have h1:=hb.1;have h2:=hb.2;simp at h1;omega)) hcq2 (fun b hb e=>by have h1:=hb.1;have h2:=hb.2;simp at h1;omega)) hcc (fun b hb e=>by have h1:=hb.1;have h2:=hb.2;simp at h1;omega));have hwc2:=hwc;rw [hwq2,hwq1,hwq0] at hwc2
  have HXX:=Ac (((((((((hx0.t hz1).t hx1).t hz2).t hz3).t hz4).chg1 hcq0 (by omega)).chg1 hcq1 (by omega)).chg1 hcq2 (by omega)).chg1 hcc (by omega));have HWC:=Ac hwc2;have HRC:=Ac hrc;have hsz2:w4.heap.size=wc.heap.size:=by rw [hsc,hsq2,hsq1,hsq0]
  have gr0:=fr10 hR;have hOF:=fun o=>fr_of hO o
  have go4:=hOF 4;have go5:=hOF 5;have go6:=hOF 6;clear hOF;clear hR hO hwq0 hoq0 hcq0 hrq0 hwq1 hoq1 hcq1 hrq1 hwq2 hoq2 hcq2 hrq2 hwc2 hwc hrc hcc hsc hsq0 hsq1 hsq2
  try clear cf14
  try clear cf15
  try clear cf16
  have cf20:=blk10 (Aa ((((hz1.t hx1).t hz2).t hz3).t hz4) HB0.out.1);have cf21:=blk10 (Aa ((((hz1.t hx1).t hz2).t hz3).t hz4) HB0.out.2);have cf22:=blk10 (Aa ((hz2.t hz3).t hz4) HB1.out);have cf23:=Ag (((((hx0.t hz1).t hx1).t hz2).t hz3).t hz4) hd0
  go_wp2_with fail
  rw [← HWC.out];clear gr0 go4 go5 go6 cf20 cf21 cf22 cf23;have cc:=blk10 HRC.out;refine bodyPost_ret (by simp [results,Tryz.results145,go_sem,cc] <;> rfl) rfl ?_;rw [HV.out];exact⟨_,_,rfl,Az HOW.out (fun b hb=>⟨by have h1:=hb.1;simp at h1;omega,by have h2:=hb.2;omega⟩),HXX.out⟩
 have hsz:=((hx1.t hz2).t hz3).size;have hso:w1.heap.size<w3.heap.size:=blk_lt (Aa (hz2.t hz3) HB1.out);have hR:=Aa (((hz1.t hx1).t hz2).t hz3) HB0.out.2;have hO:=Aa (hz2.t hz3) HB1.out;obtain⟨wc,hwc,hrc,hcc,hsc⟩:=pk_set hR (.int .i64 x.kind) (.int .i64 x.src) (.int .i64 x.dst) ((.slice o1 x.path.parts.length c1)) (.int .i64 x.pi) (.int .i64 x.hi) (.int .i64 x.beta) (.int .i64 x.rid) (.int .i64 x.seq) ((.slice o2 x.pay.length c2));have HOW:=Ac (An (Ba OO.out ((hx1.t hz2).t hz3)) hcc (fun b hb e=>by have h1:=hb.1;have h2:=hb.2;simp at h1;omega));have HXX:=Ac (((((hx0.t hz1).t hx1).t hz2).t hz3).chg1 hcc (by omega));have HWC:=Ac hwc;have HRC:=Ac hrc;have hsz2:w3.heap.size=wc.heap.size:=by rw [hsc]
 have gr0:=fr10 hR;clear hR hO hwc hrc hcc hsc
 try clear cf11
 try clear cf12
 try clear cf13
 have cf24:=blk10 (Aa (((hz1.t hx1).t hz2).t hz3) HB0.out.1);have cf25:=blk10 (Aa (((hz1.t hx1).t hz2).t hz3) HB0.out.2);have cf26:=blk10 (Aa (hz2.t hz3) HB1.out)
 go_wp2_with fail
 rw [← HWC.out];clear gr0 cf24 cf25 cf26;have cc:=blk10 HRC.out;refine bodyPost_ret (by simp [results,Tryz.results145,go_sem,cc] <;> rfl) rfl ?_;rw [adv_2 b1];exact⟨_,_,rfl,Az HOW.out (fun b hb=>⟨by have h1:=hb.1;simp at h1;omega,by have h2:=hb.2;omega⟩),HXX.out⟩
theorem s_AdvanceHop (x:Pkt) (v0 v1:Value) (w:World) (r0:RdS Part.rep w v0 x.path.parts) (r1:RdS Rep.byte w v1 x.pay) (hl:x.size≤1048576) :
  Calls Tryz.prog 103 #[.agg #[.int .i64 x.kind,.int .i64 x.src,.int .i64 x.dst,v0,.int .i64 x.pi,.int .i64 x.hi,.int .i64 x.beta,.int .i64 x.rid,.int .i64 x.seq,v1]] w fun e w'=>∃ u0 u1,e=.returned (.agg #[.int .i64 (advance x).kind,.int .i64 (advance x).src,.int .i64 (advance x).dst,u0,.int .i64 (advance x).pi,.int .i64 (advance x).hi,.int .i64 (advance x).beta,.int .i64 (advance x).rid,.int .i64 (advance x).seq,u1])∧Pkt.own (rng w.heap.size w'.heap.size) w' u0 u1 (advance x)∧Ext w w':=by
 obtain⟨o,cap,rfl,hsm⟩:=r0.shape;obtain⟨hx0,HB0⟩:=ea2 w (.cells #[.int .i64 x.kind,.int .i64 x.src,.int .i64 x.dst,.slice o x.path.parts.length cap,.int .i64 x.pi,.int .i64 x.hi,.int .i64 x.beta,.int .i64 x.rid,.int .i64 x.seq,v1] 35) (.cells #[.int .i64 0,.int .i64 0,.int .i64 0,.slice none 0 0,.int .i64 0,.int .i64 0,.int .i64 0,.int .i64 0,.int .i64 0,.slice none 0 0] 35);replace HB0:=Ac HB0
 go_enter Tryz.func103,Tryz.ntmps103
 have cf1:=blk10 HB0.out.1;have cf2:=blk10 HB0.out.2
 go_wp2_with fail
 refine(s_l26Copy x _ _ _ (r0.ext hx0) (r1.ext hx0) hl).mono ?_;rintro e w1 ⟨u0,u1,rfl,oo,hz1⟩;obtain⟨o1,c1,rfl,_⟩:=(As oo).shape;obtain⟨o2,c2,rfl,_⟩:=(At oo).shape;have hs1:w.heap.size+1+1≤w1.heap.size:=by simpa using hz1.size
 have OO:=Ac oo;clear oo
 try clear cf1
 try clear cf2
 have cf3:=blk10 (Aa hz1 HB0.out.1);have cf4:=blk10 (Aa hz1 HB0.out.2);obtain⟨hx1,HB1⟩:=ea1 w1 (.cells #[.int .i64 x.kind,.int .i64 x.src,.int .i64 x.dst,(.slice o1 x.path.parts.length c1),.int .i64 x.pi,.int .i64 x.hi,.int .i64 x.beta,.int .i64 x.rid,.int .i64 x.seq,(.slice o2 x.pay.length c2)] 35);replace HB1:=Ac HB1;have cf5:=blk10 (Aa (hz1.t hx1) HB0.out.1);have cf6:=blk10 (Aa (hz1.t hx1) HB0.out.2);have cf7:=blk10 HB1.out
 go_wp2_with fail
 refine(s_CurrentAS x _ _ _ (r0.ext ((hx0.t hz1).t hx1))).mono ?_;rintro e w2 ⟨rfl,hz2⟩
 by_cases b0:curAs x<0
 ·
  have hsz:=(hx1.t hz2).size;have hso:w1.heap.size<w2.heap.size:=blk_lt (Aa hz2 HB1.out);have hR:=Aa ((hz1.t hx1).t hz2) HB0.out.2;have hO:=Aa hz2 HB1.out;obtain⟨wc,hwc,hrc,hcc,hsc⟩:=pk_set hR (.int .i64 x.kind) (.int .i64 x.src) (.int .i64 x.dst) ((.slice o1 x.path.parts.length c1)) (.int .i64 x.pi) (.int .i64 x.hi) (.int .i64 x.beta) (.int .i64 x.rid) (.int .i64 x.seq) ((.slice o2 x.pay.length c2));have HOW:=Ac (An (Ba OO.out (hx1.t hz2)) hcc (fun b hb e=>by have h1:=hb.1;have h2:=hb.2;simp at h1;omega));have HXX:=Ac ((((hx0.t hz1).t hx1).t hz2).chg1 hcc (by omega));have HWC:=Ac hwc;have HRC:=Ac hrc;have hsz2:w2.heap.size=wc.heap.size:=by rw [hsc]
  have gr0:=fr10 hR;clear hR hO hwc hrc hcc hsc
  try clear cf5
  try clear cf6
  try clear cf7
  have cf8:=blk10 (Aa ((hz1.t hx1).t hz2) HB0.out.1);have cf9:=blk10 (Aa ((hz1.t hx1).t hz2) HB0.out.2);have cf10:=blk10 (Aa hz2 HB1.out)
  go_wp2_with fail
  rw [← HWC.out];clear gr0 cf8 cf9 cf10;have cc:=blk10 HRC.out;refine bodyPost_ret (by simp [results,Tryz.results103,go_sem,cc] <;> rfl) rfl ?_;rw [adv_1 (x:=x) (by omega)];exact⟨_,_,rfl,Az HOW.out (fun b hb=>⟨by have h1:=hb.1;simp at h1;omega,by have h2:=hb.2;omega⟩),HXX.out⟩
 try clear cf5
 try clear cf6
 try clear cf7
 have cf11:=blk10 (Aa ((hz1.t hx1).t hz2) HB0.out.1);have cf12:=blk10 (Aa ((hz1.t hx1).t hz2) HB0.out.2);have cf13:=blk10 (Aa hz2 HB1.out)
 go_wp2_with fail
 refine(s_AtLastHop x _ _ _ (r0.ext (((hx0.t hz1).t hx1).t hz2))).mono ?_;rintro e w3 ⟨rfl,hz3⟩
 cases b1:atLast x
 ·
  obtain⟨⟨p0,p1,p2⟩,q0,q1,q2⟩:=Cc (curAs_has (x:=x) (by omega));have hcp:=curPart_at p2;obtain⟨b,off,oh,ch,eo,hc,hr⟩:=Bx (r0.ext ((((hx0.t hz1).t hx1).t hz2).t hz3)) x.pi.toNat p2;rw [← hcp] at hc hr;clear hcp;have hlh:(curPart x).hops.length≤9223372036854775807:=by obtain⟨_,_,_,h⟩:=hr.shape;exact h
  cases eo
  have HLO:=Ac (lastOf_lt (x:=x) (by omega));have hw2:IntKind.i64.wrap (((curPart x).hops.length:Int) - 1)=((curPart x).hops.length:Int) - 1:=IntWalk.i64_in _ (by omega)
  by_cases b3:x.hi<((curPart x).hops.length:Int) - 1
  ·
   have b2:lastOf x=false:=by rw [HLO.out,decide_eq_true (by omega)];rfl
   try clear cf11
   try clear cf12
   try clear cf13
   have cf14:=blk10 (Aa (((hz1.t hx1).t hz2).t hz3) HB0.out.1);have cf15:=blk10 (Aa (((hz1.t hx1).t hz2).t hz3) HB0.out.2);have cf16:=blk10 (Aa (hz2.t hz3) HB1.out)
   go_wp2_with fail
   refine Al (by kernel_rfl) (by kernel_rfl) ?_;have q0:=Bp cf14;have q10:=Bp cf15;have q20:=Bp cf16;have q30:=Bm hc
   repeat (first | go_big_quiet_step ((fail)) | quiet_step ((fail)))
   refine wpQuiet_nil ?_;intro w4 hw4;have hz4:=Bc hw4;clear hw4 q0 q10 q20 q30;clear hw2;have HV:=Ac (adv_4 (x:=x) (by omega) b1 b2);have q3:x.hi+1≤9223372036854775807:=by have:=hlh;omega
   have hsz:=(((hx1.t hz2).t hz3).t hz4).size;have hso:w1.heap.size<w4.heap.size:=blk_lt (Aa ((hz2.t hz3).t hz4) HB1.out);have hR:=Aa ((((hz1.t hx1).t hz2).t hz3).t hz4) HB0.out.2;have hO:=Aa ((hz2.t hz3).t hz4) HB1.out;obtain⟨wq0,hwq0,hoq0,hcq0,hsq0⟩:=cell_set hO 5 (.int .i64 (x.hi+1));have hrq0:=hcq0.other hR (by omega);obtain⟨wc,hwc,hrc,hcc,hsc⟩:=pk_set hrq0 (.int .i64 x.kind) (.int .i64 x.src) (.int .i64 x.dst) ((.slice o1 x.path.parts.length c1)) (.int .i64 x.pi) (.int .i64 (x.hi+1)) (.int .i64 x.beta) (.int .i64 x.rid) (.int .i64 x.seq) ((.slice o2 x.pay.length c2));have HOW:=Ac (An (An (Ba OO.out (((hx1.t hz2).t hz3).t hz4)) hcq0 (fun b hb e=>by have h1:=hb.1;have h2:=hb.2;simp at h1;omega)) hcc (fun b hb e=>by have h1:=hb.1;have h2:=hb.2;simp at h1;omega));have hwc2:=hwc;rw [hwq0] at hwc2;have HXX:=Ac (((((((hx0.t hz1).t hx1).t hz2).t hz3).t hz4).chg1 hcq0 (by omega)).chg1 hcc (by omega));have HWC:=Ac hwc2;have HRC:=Ac hrc;have hsz2:w4.heap.size=wc.heap.size:=by rw [hsc,hsq0]
   have gr0:=fr10 hR;have hOF:=fun o=>fr_of hO o
   have go5:=hOF 5;clear hOF;clear hR hO hwq0 hoq0 hcq0 hrq0 hwc2 hwc hrc hcc hsc hsq0
   try clear cf14
   try clear cf15
   try clear cf16
   have cf17:=blk10 (Aa ((((hz1.t hx1).t hz2).t hz3).t hz4) HB0.out.1);have cf18:=blk10 (Aa ((((hz1.t hx1).t hz2).t hz3).t hz4) HB0.out.2);have cf19:=blk10 (Aa ((hz2.t hz3).t hz4) HB1.out);have cf20:=Ag hz4 hc
   go_wp2_with fail
   rw [← HWC.out];clear gr0 go5 cf17 cf18 cf19 cf20;have cc:=blk10 HRC.out;refine bodyPost_ret (by simp [results,Tryz.results103,go_sem,cc] <;> rfl) rfl ?_;rw [HV.out];exact⟨_,_,rfl,Az HOW.out (fun b hb=>⟨by have h1:=hb.1;simp at h1;omega,by have h2:=hb.2;omega⟩),HXX.out⟩
  have b2:lastOf x=true:=by rw [HLO.out,decide_eq_false (by omega)];rfl
  try clear cf11
  try clear cf12
  try clear cf13
  have cf21:=blk10 (Aa (((hz1.t hx1).t hz2).t hz3) HB0.out.1);have cf22:=blk10 (Aa (((hz1.t hx1).t hz2).t hz3) HB0.out.2);have cf23:=blk10 (Aa (hz2.t hz3) HB1.out)
  go_wp2_with fail
  refine Al (by kernel_rfl) (by kernel_rfl) ?_;have q0:=Bp cf21;have q10:=Bp cf22;have q20:=Bp cf23;have q30:=Bm hc
  repeat (first | go_big_quiet_step ((fail)) | quiet_step ((fail)))
  refine wpQuiet_nil ?_;intro w5 hw5;have hz5:=Bc hw5;clear hw5 q0 q10 q20 q30;clear hw2;have p3:=adv_next (x:=x) (by omega) b1 b2;have p4:(x.pi+1).toNat<x.path.parts.length:=by omega
  have HAT:=Ac (show(partAt x.path.parts (x.pi.toNat+1)).beta=x.path.parts[(x.pi+1).toNat].beta by rw [Cf p3];simp only [show(x.pi+1).toNat=x.pi.toNat+1 by omega]);have HV:=Ac ((adv_3 (x:=x) (by omega) b1 b2).trans (by rw [HAT.out]));have p5:x.pi+1<(x.path.parts.length:Int):=by omega
  have p6:0≤x.pi+1:=by omega
  obtain⟨bb,ff,oh2,ch2,e2,hd0,_⟩:=Bx r0 (x.pi+1).toNat p4
  cases e2
  have hbo:b<w.heap.size:=World.block_lt_of_cell? w ⟨b,off+(x.pi+1).toNat * 4,none⟩ hd0.1;have hbn1:b≠w1.heap.size:=by omega
  have hbn2:w.heap.size≠w1.heap.size:=by omega
  have hsz:=(((hx1.t hz2).t hz3).t hz5).size;have hso:w1.heap.size<w5.heap.size:=blk_lt (Aa ((hz2.t hz3).t hz5) HB1.out);have hR:=Aa ((((hz1.t hx1).t hz2).t hz3).t hz5) HB0.out.2;have hO:=Aa ((hz2.t hz3).t hz5) HB1.out;obtain⟨wq0,hwq0,hoq0,hcq0,hsq0⟩:=cell_set hO 4 (.int .i64 (x.pi+1));have hrq0:=hcq0.other hR (by omega);obtain⟨wq1,hwq1,hoq1,hcq1,hsq1⟩:=cell_set hoq0 5 (.int .i64 0);have hrq1:=hcq1.other hrq0 (by omega);obtain⟨wq2,hwq2,hoq2,hcq2,hsq2⟩:=cell_set hoq1 6 (.int .i64 x.path.parts[(x.pi+1).toNat].beta);have hrq2:=hcq2.other hrq1 (by omega);obtain⟨wc,hwc,hrc,hcc,hsc⟩:=pk_set hrq2 (.int .i64 x.kind) (.int .i64 x.src) (.int .i64 x.dst) ((.slice o1 x.path.parts.length c1)) (.int .i64 (x.pi+1)) (.int .i64 (0)) (.int .i64 (x.path.parts[(x.pi+1).toNat].beta)) (.int .i64 x.rid) (.int .i64 x.seq) ((.slice o2 x.pay.length c2));have HOW:=Ac (An (An (An (An (Ba OO.out (((hx1.t hz2).t hz3).t hz5)) hcq0 (fun b hb e=>by have h1:=hb.1;have h2:=hb.2;simp at h1;omega)) hcq1 (fun b hb e=>by have h1:=hb.1;have h2:=hb.2;simp at h1;omega)) hcq2 (fun b hb e=>by have h1:=hb.1;have h2:=hb.2;simp at h1;omega)) hcc (fun b hb e=>by have h1:=hb.1;have h2:=hb.2;simp at h1;omega));have hwc2:=hwc;rw [hwq2,hwq1,hwq0] at hwc2
  have HXX:=Ac (((((((((hx0.t hz1).t hx1).t hz2).t hz3).t hz5).chg1 hcq0 (by omega)).chg1 hcq1 (by omega)).chg1 hcq2 (by omega)).chg1 hcc (by omega));have HWC:=Ac hwc2;have HRC:=Ac hrc;have hsz2:w5.heap.size=wc.heap.size:=by rw [hsc,hsq2,hsq1,hsq0]
  have gr0:=fr10 hR;have hOF:=fun o=>fr_of hO o
  have go4:=hOF 4;have go5:=hOF 5;have go6:=hOF 6;clear hOF;clear hR hO hwq0 hoq0 hcq0 hrq0 hwq1 hoq1 hcq1 hrq1 hwq2 hoq2 hcq2 hrq2 hwc2 hwc hrc hcc hsc hsq0 hsq1 hsq2
  try clear cf21
  try clear cf22
  try clear cf23
  have cf24:=blk10 (Aa ((((hz1.t hx1).t hz2).t hz3).t hz5) HB0.out.1);have cf25:=blk10 (Aa ((((hz1.t hx1).t hz2).t hz3).t hz5) HB0.out.2);have cf26:=blk10 (Aa ((hz2.t hz3).t hz5) HB1.out);have cf27:=Ag hz5 hc;have cf28:=Ag (((((hx0.t hz1).t hx1).t hz2).t hz3).t hz5) hd0
  go_wp2_with fail
  rw [← HWC.out];clear gr0 go4 go5 go6 cf24 cf25 cf26 cf27 cf28;have cc:=blk10 HRC.out;refine bodyPost_ret (by simp [results,Tryz.results103,go_sem,cc] <;> rfl) rfl ?_;rw [HV.out];exact⟨_,_,rfl,Az HOW.out (fun b hb=>⟨by have h1:=hb.1;simp at h1;omega,by have h2:=hb.2;omega⟩),HXX.out⟩
 have hsz:=((hx1.t hz2).t hz3).size;have hso:w1.heap.size<w3.heap.size:=blk_lt (Aa (hz2.t hz3) HB1.out);have hR:=Aa (((hz1.t hx1).t hz2).t hz3) HB0.out.2;have hO:=Aa (hz2.t hz3) HB1.out;obtain⟨wc,hwc,hrc,hcc,hsc⟩:=pk_set hR (.int .i64 x.kind) (.int .i64 x.src) (.int .i64 x.dst) ((.slice o1 x.path.parts.length c1)) (.int .i64 x.pi) (.int .i64 x.hi) (.int .i64 x.beta) (.int .i64 x.rid) (.int .i64 x.seq) ((.slice o2 x.pay.length c2));have HOW:=Ac (An (Ba OO.out ((hx1.t hz2).t hz3)) hcc (fun b hb e=>by have h1:=hb.1;have h2:=hb.2;simp at h1;omega));have HXX:=Ac (((((hx0.t hz1).t hx1).t hz2).t hz3).chg1 hcc (by omega));have HWC:=Ac hwc;have HRC:=Ac hrc;have hsz2:w3.heap.size=wc.heap.size:=by rw [hsc]
 have gr0:=fr10 hR;clear hR hO hwc hrc hcc hsc
 try clear cf11
 try clear cf12
 try clear cf13
 have cf29:=blk10 (Aa (((hz1.t hx1).t hz2).t hz3) HB0.out.1);have cf30:=blk10 (Aa (((hz1.t hx1).t hz2).t hz3) HB0.out.2);have cf31:=blk10 (Aa (hz2.t hz3) HB1.out)
 go_wp2_with fail
 rw [← HWC.out];clear gr0 cf29 cf30 cf31;have cc:=blk10 HRC.out;refine bodyPost_ret (by simp [results,Tryz.results103,go_sem,cc] <;> rfl) rfl ?_;rw [adv_2 b1];exact⟨_,_,rfl,Az HOW.out (fun b hb=>⟨by have h1:=hb.1;simp at h1;omega,by have h2:=hb.2;omega⟩),HXX.out⟩
theorem i_CurrentHopValid (x:Pkt) (v0 v1:Value) (now:Int) (w:World) (r0:RdS Part.rep w v0 x.path.parts) :
  Calls Tryz.prog 180 #[.agg #[.int .i64 x.kind,.int .i64 x.src,.int .i64 x.dst,v0,.int .i64 x.pi,.int .i64 x.hi,.int .i64 x.beta,.int .i64 x.rid,.int .i64 x.seq,v1],.int .i64 now] w fun e w'=>e=.returned (.bool (curIn x now))∧Ext w w':=by
 obtain⟨o,cap,rfl,hsm⟩:=r0.shape;obtain⟨hx0,HB0⟩:=ea1 w (.cells #[.int .i64 x.kind,.int .i64 x.src,.int .i64 x.dst,.slice o x.path.parts.length cap,.int .i64 x.pi,.int .i64 x.hi,.int .i64 x.beta,.int .i64 x.rid,.int .i64 x.seq,v1] 35);replace HB0:=Ac HB0
 go_enter Tryz.func180,Tryz.ntmps180
 have cf1:=blk10 HB0.out
 go_wp2_with fail
 refine(i_CurrentAS x _ _ _ (r0.ext hx0)).mono ?_;rintro e w1 ⟨rfl,hz1⟩
 by_cases b0:curAs x<0
 ·
  have HE:=Ac (curIn_1 (now:=now) b0)
  try clear cf1
  have cf2:=blk10 (Aa hz1 HB0.out)
  go_wp2_with fail
  go_ret
  exact⟨Ah HE.out.symm,(hx0.t hz1)⟩
 have HE:=Ac (curIn_2 (x:=x) (now:=now) (by omega));obtain⟨⟨p0,p1,p2⟩,q0,q1,q2⟩:=Cc (curAs_has (x:=x) (by omega));have hcp:=curPart_at p2;obtain⟨b,off,oh,ch,rfl,hc,hr⟩:=Bx (r0.ext (hx0.t hz1)) x.pi.toNat p2;rw [← hcp] at hc hr;clear hcp;have hch:=curHop_at q2;obtain⟨b3,off3,rfl,ht⟩:=Ca hr x.hi.toNat q2;rw [← hch] at ht;clear hch
 try clear cf1
 have cf3:=blk10 (Aa hz1 HB0.out);obtain⟨hx1,HB1⟩:=ea1 w1 (.cells #[.int .i64 (curPart x).kind,.int .i64 (curPart x).ts,.int .i64 (curPart x).beta,.slice (some ⟨b3,off3,none⟩) (curPart x).hops.length ch] 99);replace HB1:=Ac HB1
 by_cases b1:(curPart x).ts≤now
 ·
  have B1:=Ac b1;have cf4:=blk10 (Aa (hz1.t hx1) HB0.out);have cf5:=blk4 HB1.out;have cf6:=Ag hx1 hc;have cf7:=hopc_ext hx1 ht
  go_wp2_with fail
  refine(i_HopValidAt (curHop x) now _).mono ?_;rintro e w2 ⟨rfl,hz2⟩
  try clear cf4
  try clear cf5
  try clear cf6
  try clear cf7
  have cf8:=blk10 (Aa ((hz1.t hx1).t hz2) HB0.out);have cf9:=blk4 (Aa hz2 HB1.out);have cf10:=Ag (hx1.t hz2) hc;have cf11:=hopc_ext (hx1.t hz2) ht
  go_wp2_with fail
  go_ret
  exact⟨Ah (by rw [HE.out,decide_eq_true B1.out];rfl),(((hx0.t hz1).t hx1).t hz2)⟩
 have B1:=Ac b1;have cf12:=blk10 (Aa (hz1.t hx1) HB0.out);have cf13:=blk4 HB1.out;have cf14:=Ag hx1 hc;have cf15:=hopc_ext hx1 ht
 go_wp2_with fail
 go_ret
 exact⟨Ah (by rw [HE.out,decide_eq_false (by have:=B1.out;omega)];rfl),((hx0.t hz1).t hx1)⟩
theorem s_CurrentHopValid (x:Pkt) (v0 v1:Value) (now:Int) (w:World) (r0:RdS Part.rep w v0 x.path.parts) :
  Calls Tryz.prog 153 #[.agg #[.int .i64 x.kind,.int .i64 x.src,.int .i64 x.dst,v0,.int .i64 x.pi,.int .i64 x.hi,.int .i64 x.beta,.int .i64 x.rid,.int .i64 x.seq,v1],.int .i64 now] w fun e w'=>e=.returned (.bool (curIn x now))∧Ext w w':=by
 obtain⟨o,cap,rfl,hsm⟩:=r0.shape;obtain⟨hx0,HB0⟩:=ea1 w (.cells #[.int .i64 x.kind,.int .i64 x.src,.int .i64 x.dst,.slice o x.path.parts.length cap,.int .i64 x.pi,.int .i64 x.hi,.int .i64 x.beta,.int .i64 x.rid,.int .i64 x.seq,v1] 35);replace HB0:=Ac HB0
 go_enter Tryz.func153,Tryz.ntmps153
 have cf1:=blk10 HB0.out
 go_wp2_with fail
 refine(s_CurrentAS x _ _ _ (r0.ext hx0)).mono ?_;rintro e w1 ⟨rfl,hz1⟩
 by_cases b0:curAs x<0
 ·
  have HE:=Ac (curIn_1 (now:=now) b0)
  try clear cf1
  have cf2:=blk10 (Aa hz1 HB0.out)
  go_wp2_with fail
  go_ret
  exact⟨Ah HE.out.symm,(hx0.t hz1)⟩
 have HE:=Ac (curIn_2 (x:=x) (now:=now) (by omega));obtain⟨⟨p0,p1,p2⟩,q0,q1,q2⟩:=Cc (curAs_has (x:=x) (by omega));have hcp:=curPart_at p2;obtain⟨b,off,oh,ch,rfl,hc,hr⟩:=Bx (r0.ext (hx0.t hz1)) x.pi.toNat p2;rw [← hcp] at hc hr;clear hcp;have hch:=curHop_at q2;obtain⟨b3,off3,rfl,ht⟩:=Ca hr x.hi.toNat q2;rw [← hch] at ht;clear hch
 try clear cf1
 have cf3:=blk10 (Aa hz1 HB0.out);obtain⟨hx1,HB1⟩:=ea1 w1 (.cells #[.int .i64 (curPart x).kind,.int .i64 (curPart x).ts,.int .i64 (curPart x).beta,.slice (some ⟨b3,off3,none⟩) (curPart x).hops.length ch] 99);replace HB1:=Ac HB1
 by_cases b1:(curPart x).ts≤now
 ·
  have B1:=Ac b1;have cf4:=blk10 (Aa (hz1.t hx1) HB0.out);have cf5:=blk4 HB1.out;have cf6:=Ag hx1 hc;have cf7:=hopc_ext hx1 ht
  go_wp2_with fail
  refine(s_HopValidAt (curHop x) now _).mono ?_;rintro e w2 ⟨rfl,hz2⟩
  try clear cf4
  try clear cf5
  try clear cf6
  try clear cf7
  have cf8:=blk10 (Aa ((hz1.t hx1).t hz2) HB0.out);have cf9:=blk4 (Aa hz2 HB1.out);have cf10:=Ag (hx1.t hz2) hc;have cf11:=hopc_ext (hx1.t hz2) ht
  go_wp2_with fail
  go_ret
  exact⟨Ah (by rw [HE.out,decide_eq_true B1.out];rfl),(((hx0.t hz1).t hx1).t hz2)⟩
 have B1:=Ac b1;have cf12:=blk10 (Aa (hz1.t hx1) HB0.out);have cf13:=blk4 HB1.out;have cf14:=Ag hx1 hc;have cf15:=hopc_ext hx1 ht
 go_wp2_with fail
 go_ret
 exact⟨Ah (by rw [HE.out,decide_eq_false (by have:=B1.out;omega)];rfl),((hx0.t hz1).t hx1)⟩
theorem vd_set {w:World} {b:Nat} {x0 x1 x2 x3 x4 x5 x6 x7 x8 x9 x10 x11:Value} {t:TypeId} (h:w.heap[b]?=some (.cells #[x0,x1,x2,x3,x4,x5,x6,x7,x8,x9,x10,x11] t (0,0))) (y0 y1 y2 y3 y4 y5 y6 y7 y8 y9 y10 y11:Value) :
  ∃ w5,w5=((((((((((((w.setCell ⟨b,0,none⟩ y0).setCell ⟨b,1,none⟩ y1).setCell ⟨b,2,none⟩ y2).setCell ⟨b,3,none⟩ y3).setCell ⟨b,4,none⟩ y4).setCell ⟨b,5,none⟩ y5).setCell ⟨b,6,none⟩ y6).setCell ⟨b,7,none⟩ y7).setCell ⟨b,8,none⟩ y8).setCell ⟨b,9,none⟩ y9).setCell ⟨b,10,none⟩ y10).setCell ⟨b,11,none⟩ y11)∧w5.heap[b]?=some (.cells #[y0,y1,y2,y3,y4,y5,y6,y7,y8,y9,y10,y11] t (0,0))∧Chg (fun i=>i=b) w w5∧w5.heap.size=w.heap.size:=by
 refine⟨_,rfl,by simpa using (blk_set (blk_set (blk_set (blk_set (blk_set (blk_set (blk_set (blk_set (blk_set (blk_set (blk_set (blk_set h 0 y0) 1 y1) 2 y2) 3 y3) 4 y4) 5 y5) 6 y6) 7 y7) 8 y8) 9 y9) 10 y10) 11 y11),?_,by simp⟩;have q (o:Nat) (u:Value) {wq:World} (h:Chg (fun i=>i=b) w wq):=Chg.setCell (p:=⟨b,o,none⟩) h rfl u;exact q _ _ (q _ _ (q _ _ (q _ _ (q _ _ (q _ _ (q _ _ (q _ _ (q _ _ (q _ _ (q _ _ (q _ _ (Bq _ w))))))))))))
def chkP (t:Topo) (now:Int) (x:Pkt):Pkt:=if chkCode t now x=0 then verCur t x else x
theorem chkP_0 {t:Topo} {now:Int} {x:Pkt} (h:chkCode t now x=0):chkP t now x=verCur t x:=if_pos h
theorem chkP_n {t:Topo} {now:Int} {x:Pkt} (h:¬ chkCode t now x=0):chkP t now x=x:=if_neg h
theorem verCur_path (t:Topo) (x:Pkt):(verCur t x).path=x.path:=by unfold verCur;split <;> rfl
theorem verCur_pi (t:Topo) (x:Pkt):(verCur t x).pi=x.pi:=by unfold verCur;split <;> rfl
theorem verCur_curAs (t:Topo) (x:Pkt):curAs (verCur t x)=curAs x:=by unfold verCur;split <;> rfl
theorem curIn_ver (t:Topo) (x:Pkt) (now:Int):curIn (verCur t x) now=curIn x now:=by unfold verCur;split <;> rfl
theorem code_4 {t:Topo} {now:Int} {x:Pkt} (h:curOk t x=false):chkCode t now x=4:=by unfold chkCode;rw [h];rfl
theorem code_5 {t:Topo} {now:Int} {x:Pkt} (h:curOk t x=true) (h2:curIn x now=false):chkCode t now x=5:=by unfold chkCode;rw [h,h2];rfl
theorem code_0 {t:Topo} {now:Int} {x:Pkt} (h:curOk t x=true) (h2:curIn x now=true):chkCode t now x=0:=by unfold chkCode;rw [h,h2];rfl
theorem verCur_size (t:Topo) (x:Pkt):(verCur t x).size=x.size:=by unfold verCur;split <;> rfl
theorem i_checkHop (t:Topo) (va vk:Value) (now:Int) (x:Pkt) (v0 v1:Value) (w:World) (ha:RdS ASd.rep w va t.ases) (hk:RdS Lnk.rep w vk t.links) (r0:RdS Part.rep w v0 x.path.parts) (r1:RdS Rep.byte w v1 x.pay) (hl:x.size≤1048576) :
  Calls Tryz.prog 142 #[.agg #[va,vk],.int .i64 now,.agg #[.int .i64 x.kind,.int .i64 x.src,.int .i64 x.dst,v0,.int .i64 x.pi,.int .i64 x.hi,.int .i64 x.beta,.int .i64 x.rid,.int .i64 x.seq,v1]] w fun e w'=>∃ u0 u1,e=.returned (.tuple #[.agg #[.int .i64 (chkP t now x).kind,.int .i64 (chkP t now x).src,.int .i64 (chkP t now x).dst,u0,.int .i64 (chkP t now x).pi,.int .i64 (chkP t now x).hi,.int .i64 (chkP t now x).beta,.int .i64 (chkP t now x).rid,.int .i64 (chkP t now x).seq,u1],.int .i64 (chkCode t now x)])∧RdS Part.rep w' u0 (chkP t now x).path.parts∧RdS Rep.byte w' u1 (chkP t now x).pay∧(chkCode t now x=0→Pkt.own (rng w.heap.size w'.heap.size) w' u0 u1 (chkP t now x))∧Ext w w':=by
 obtain⟨o,cap,rfl,hsm⟩:=r0.shape;obtain⟨oy,cy,rfl,hsy⟩:=r1.shape;obtain⟨hx0,HB0⟩:=ea3 w (.cells #[va,vk] 27) (.cells #[.int .i64 x.kind,.int .i64 x.src,.int .i64 x.dst,.slice o x.path.parts.length cap,.int .i64 x.pi,.int .i64 x.hi,.int .i64 x.beta,.int .i64 x.rid,.int .i64 x.seq,.slice oy x.pay.length cy] 35) (.cells #[.int .i64 0,.int .i64 0,.int .i64 0,.slice none 0 0,.int .i64 0,.int .i64 0,.int .i64 0,.int .i64 0,.int .i64 0,.slice none 0 0] 35);replace HB0:=Ac HB0
 go_enter Tryz.func142,Tryz.ntmps142
 have cf1:=blk2 HB0.out.1;have cf2:=blk10 HB0.out.2.1;have cf3:=blk10 HB0.out.2.2
 go_wp2_with fail
 refine(i_VerifyCurrentHop t _ _ x _ _ _ (ha.ext hx0) (hk.ext hx0) (r0.ext hx0) (r1.ext hx0) hl).mono ?_;rintro e w1 ⟨u0,u1,rfl,oo,hz1⟩;have HZI:=Ac (curIn_ver t x now);generalize hz:verCur t x=z at *;have HZ:=Ac hz;clear hz;obtain⟨o1,c1,rfl,_⟩:=(As oo).shape;obtain⟨o2,c2,rfl,_⟩:=(At oo).shape;have hs1:w.heap.size+1+1+1≤w1.heap.size:=by simpa using hz1.size
 have OO:=Ac oo;clear oo
 try clear cf1
 try clear cf2
 try clear cf3
 have cf4:=blk2 (Aa hz1 HB0.out.1);have cf5:=blk10 (Aa hz1 HB0.out.2.1);have cf6:=blk10 (Aa hz1 HB0.out.2.2);obtain⟨hx1,HB1⟩:=ea1 w1 (.cells #[.int .i64 z.kind,.int .i64 z.src,.int .i64 z.dst,(.slice o1 z.path.parts.length c1),.int .i64 z.pi,.int .i64 z.hi,.int .i64 z.beta,.int .i64 z.rid,.int .i64 z.seq,(.slice o2 z.pay.length c2)] 35);replace HB1:=Ac HB1
 cases bo:curOk t x
 ·
  have HC:=Ac (code_4 (now:=now) bo);have HP:=Ac (chkP_n (t:=t) (now:=now) (x:=x) (by rw [HC.out];decide));have hsz:=hx1.size;have hso:w1.heap.size<(w1.alloc (.cells #[.int .i64 z.kind,.int .i64 z.src,.int .i64 z.dst,(.slice o1 z.path.parts.length c1),.int .i64 z.pi,.int .i64 z.hi,.int .i64 z.beta,.int .i64 z.rid,.int .i64 z.seq,(.slice o2 z.pay.length c2)] 35)).heap.size:=blk_lt (Aa (Ab _) HB1.out);have hR:=Aa (hz1.t hx1) HB0.out.2.2;obtain⟨wc,hwc,hrc,hcc,hsc⟩:=pk_set hR (.int .i64 x.kind) (.int .i64 x.src) (.int .i64 x.dst) ((.slice o x.path.parts.length cap)) (.int .i64 x.pi) (.int .i64 x.hi) (.int .i64 x.beta) (.int .i64 x.rid) (.int .i64 x.seq) ((.slice oy x.pay.length cy));have HXX:=Ac (((hx0.t hz1).t hx1).chg1 hcc (by omega));have HWC:=Ac hwc;have HRC:=Ac hrc;have hsz2:(w1.alloc (.cells #[.int .i64 z.kind,.int .i64 z.src,.int .i64 z.dst,(.slice o1 z.path.parts.length c1),.int .i64 z.pi,.int .i64 z.hi,.int .i64 z.beta,.int .i64 z.rid,.int .i64 z.seq,(.slice o2 z.pay.length c2)] 35)).heap.size=wc.heap.size:=by rw [hsc]
  have gr0:=fr10 hR;clear hR hwc hrc hcc hsc;have cf7:=blk2 (Aa (hz1.t hx1) HB0.out.1);have cf8:=blk10 (Aa (hz1.t hx1) HB0.out.2.1);have cf9:=blk10 (Aa (hz1.t hx1) HB0.out.2.2);have cf10:=blk10 HB1.out
  go_wp2_with fail
  rw [← HWC.out];clear gr0 cf7 cf8 cf9 cf10;have cc:=blk10 HRC.out;refine bodyPost_ret (by simp [results,Tryz.results142,go_sem,cc] <;> rfl) rfl ?_;rw [HP.out,HC.out];exact⟨_,_,rfl,r0.ext HXX.out,r1.ext HXX.out,fun h=>absurd h (by decide),HXX.out⟩
 have cf11:=blk2 (Aa (hz1.t hx1) HB0.out.1);have cf12:=blk10 (Aa (hz1.t hx1) HB0.out.2.1);have cf13:=blk10 (Aa (hz1.t hx1) HB0.out.2.2);have cf14:=blk10 HB1.out
 go_wp2_with fail
 refine(i_CurrentHopValid z _ _ now _ (As (Ba OO.out hx1))).mono ?_;rintro e w2 ⟨rfl,hz2⟩;rw [HZI.out]
 cases bi:curIn x now
 ·
  have HC:=Ac (code_5 bo bi);have HP:=Ac (chkP_n (t:=t) (now:=now) (x:=x) (by rw [HC.out];decide));have hsz:=(hx1.t hz2).size;have hso:w1.heap.size<w2.heap.size:=blk_lt (Aa hz2 HB1.out);have hR:=Aa ((hz1.t hx1).t hz2) HB0.out.2.2;obtain⟨wc,hwc,hrc,hcc,hsc⟩:=pk_set hR (.int .i64 x.kind) (.int .i64 x.src) (.int .i64 x.dst) ((.slice o x.path.parts.length cap)) (.int .i64 x.pi) (.int .i64 x.hi) (.int .i64 x.beta) (.int .i64 x.rid) (.int .i64 x.seq) ((.slice oy x.pay.length cy));have HXX:=Ac ((((hx0.t hz1).t hx1).t hz2).chg1 hcc (by omega));have HWC:=Ac hwc;have HRC:=Ac hrc;have hsz2:w2.heap.size=wc.heap.size:=by rw [hsc]
  have gr0:=fr10 hR;clear hR hwc hrc hcc hsc
  try clear cf11
  try clear cf12
  try clear cf13
  try clear cf14
  have cf15:=blk2 (Aa ((hz1.t hx1).t hz2) HB0.out.1);have cf16:=blk10 (Aa ((hz1.t hx1).t hz2) HB0.out.2.1);have cf17:=blk10 (Aa ((hz1.t hx1).t hz2) HB0.out.2.2);have cf18:=blk10 (Aa hz2 HB1.out)
  go_wp2_with fail
  rw [← HWC.out];clear gr0 cf15 cf16 cf17 cf18;have cc:=blk10 HRC.out;refine bodyPost_ret (by simp [results,Tryz.results142,go_sem,cc] <;> rfl) rfl ?_;rw [HP.out,HC.out];exact⟨_,_,rfl,r0.ext HXX.out,r1.ext HXX.out,fun h=>absurd h (by decide),HXX.out⟩
 have HC:=Ac (code_0 bo bi);have HP:=Ac ((chkP_0 HC.out).trans HZ.out);have hsz:=(hx1.t hz2).size;have hso:w1.heap.size<w2.heap.size:=blk_lt (Aa hz2 HB1.out);have hR:=Aa ((hz1.t hx1).t hz2) HB0.out.2.2;have hO:=Aa hz2 HB1.out;obtain⟨wc,hwc,hrc,hcc,hsc⟩:=pk_set hR (.int .i64 z.kind) (.int .i64 z.src) (.int .i64 z.dst) ((.slice o1 z.path.parts.length c1)) (.int .i64 z.pi) (.int .i64 z.hi) (.int .i64 z.beta) (.int .i64 z.rid) (.int .i64 z.seq) ((.slice o2 z.pay.length c2));have HOW:=Ac (An (Ba OO.out (hx1.t hz2)) hcc (fun b hb e=>by have h1:=hb.1;have h2:=hb.2;simp at h1;omega));have HXX:=Ac ((((hx0.t hz1).t hx1).t hz2).chg1 hcc (by omega));have HWC:=Ac hwc;have HRC:=Ac hrc;have hsz2:w2.heap.size=wc.heap.size:=by rw [hsc]
 have gr0:=fr10 hR;clear hR hO hwc hrc hcc hsc
 try clear cf11
 try clear cf12
 try clear cf13
 try clear cf14
 have cf19:=blk2 (Aa ((hz1.t hx1).t hz2) HB0.out.1);have cf20:=blk10 (Aa ((hz1.t hx1).t hz2) HB0.out.2.1);have cf21:=blk10 (Aa ((hz1.t hx1).t hz2) HB0.out.2.2);have cf22:=blk10 (Aa hz2 HB1.out)
 go_wp2_with fail
 rw [← HWC.out];clear gr0 cf19 cf20 cf21 cf22;have cc:=blk10 HRC.out;refine bodyPost_ret (by simp [results,Tryz.results142,go_sem,cc] <;> rfl) rfl ?_;rw [HP.out,HC.out];exact⟨_,_,rfl,As HOW.out,At HOW.out,fun _=>Az HOW.out (fun b hb=>⟨by have h1:=hb.1;simp at h1;omega,by have h2:=hb.2;omega⟩),HXX.out⟩
theorem s_l28Check (t:Topo) (va vk:Value) (now:Int) (x:Pkt) (v0 v1:Value) (w:World) (ha:RdS ASd.rep w va t.ases) (hk:RdS Lnk.rep w vk t.links) (r0:RdS Part.rep w v0 x.path.parts) (r1:RdS Rep.byte w v1 x.pay) (hl:x.size≤1048576) :
  Calls Tryz.prog 102 #[.agg #[va,vk],.int .i64 now,.agg #[.int .i64 x.kind,.int .i64 x.src,.int .i64 x.dst,v0,.int .i64 x.pi,.int .i64 x.hi,.int .i64 x.beta,.int .i64 x.rid,.int .i64 x.seq,v1]] w fun e w'=>∃ u0 u1,e=.returned (.tuple #[.agg #[.int .i64 (verCur t x).kind,.int .i64 (verCur t x).src,.int .i64 (verCur t x).dst,u0,.int .i64 (verCur t x).pi,.int .i64 (verCur t x).hi,.int .i64 (verCur t x).beta,.int .i64 (verCur t x).rid,.int .i64 (verCur t x).seq,u1],.int .i64 (chkCode t now x)])∧Pkt.own (rng w.heap.size w'.heap.size) w' u0 u1 (verCur t x)∧Ext w w':=by
 obtain⟨o,cap,rfl,hsm⟩:=r0.shape;obtain⟨oy,cy,rfl,hsy⟩:=r1.shape;obtain⟨hx0,HB0⟩:=ea3 w (.cells #[va,vk] 27) (.cells #[.int .i64 x.kind,.int .i64 x.src,.int .i64 x.dst,.slice o x.path.parts.length cap,.int .i64 x.pi,.int .i64 x.hi,.int .i64 x.beta,.int .i64 x.rid,.int .i64 x.seq,.slice oy x.pay.length cy] 35) (.cells #[.int .i64 0,.int .i64 0,.int .i64 0,.slice none 0 0,.int .i64 0,.int .i64 0,.int .i64 0,.int .i64 0,.int .i64 0,.slice none 0 0] 35);replace HB0:=Ac HB0
 go_enter Tryz.func102,Tryz.ntmps102
 have cf1:=blk2 HB0.out.1;have cf2:=blk10 HB0.out.2.1;have cf3:=blk10 HB0.out.2.2
 go_wp2_with fail
 refine(s_VerifyCurrentHop t _ _ x _ _ _ (ha.ext hx0) (hk.ext hx0) (r0.ext hx0) (r1.ext hx0) hl).mono ?_;rintro e w1 ⟨u0,u1,rfl,oo,hz1⟩;have HZI:=Ac (curIn_ver t x now);generalize hz:verCur t x=z at *;have HZ:=Ac hz;clear hz;obtain⟨o1,c1,rfl,_⟩:=(As oo).shape;obtain⟨o2,c2,rfl,_⟩:=(At oo).shape;have hs1:w.heap.size+1+1+1≤w1.heap.size:=by simpa using hz1.size
 have OO:=Ac oo;clear oo
 try clear cf1
 try clear cf2
 try clear cf3
 have cf4:=blk2 (Aa hz1 HB0.out.1);have cf5:=blk10 (Aa hz1 HB0.out.2.1);have cf6:=blk10 (Aa hz1 HB0.out.2.2);obtain⟨hx1,HB1⟩:=ea1 w1 (.cells #[.int .i64 z.kind,.int .i64 z.src,.int .i64 z.dst,(.slice o1 z.path.parts.length c1),.int .i64 z.pi,.int .i64 z.hi,.int .i64 z.beta,.int .i64 z.rid,.int .i64 z.seq,(.slice o2 z.pay.length c2)] 35);replace HB1:=Ac HB1
 cases bo:curOk t x
 ·
  have HC:=Ac (code_4 (now:=now) bo);have hsz:=hx1.size;have hso:w1.heap.size<(w1.alloc (.cells #[.int .i64 z.kind,.int .i64 z.src,.int .i64 z.dst,(.slice o1 z.path.parts.length c1),.int .i64 z.pi,.int .i64 z.hi,.int .i64 z.beta,.int .i64 z.rid,.int .i64 z.seq,(.slice o2 z.pay.length c2)] 35)).heap.size:=blk_lt (Aa (Ab _) HB1.out);have hR:=Aa (hz1.t hx1) HB0.out.2.2;have hO:=HB1.out;obtain⟨wc,hwc,hrc,hcc,hsc⟩:=pk_set hR (.int .i64 z.kind) (.int .i64 z.src) (.int .i64 z.dst) ((.slice o1 z.path.parts.length c1)) (.int .i64 z.pi) (.int .i64 z.hi) (.int .i64 z.beta) (.int .i64 z.rid) (.int .i64 z.seq) ((.slice o2 z.pay.length c2));have HOW:=Ac (An (Ba OO.out hx1) hcc (fun b hb e=>by have h1:=hb.1;have h2:=hb.2;simp at h1;omega));have HXX:=Ac (((hx0.t hz1).t hx1).chg1 hcc (by omega));have HWC:=Ac hwc;have HRC:=Ac hrc;have hsz2:(w1.alloc (.cells #[.int .i64 z.kind,.int .i64 z.src,.int .i64 z.dst,(.slice o1 z.path.parts.length c1),.int .i64 z.pi,.int .i64 z.hi,.int .i64 z.beta,.int .i64 z.rid,.int .i64 z.seq,(.slice o2 z.pay.length c2)] 35)).heap.size=wc.heap.size:=by rw [hsc]
  have gr0:=fr10 hR;clear hR hO hwc hrc hcc hsc;have cf7:=blk2 (Aa (hz1.t hx1) HB0.out.1);have cf8:=blk10 (Aa (hz1.t hx1) HB0.out.2.1);have cf9:=blk10 (Aa (hz1.t hx1) HB0.out.2.2);have cf10:=blk10 HB1.out
  go_wp2_with fail
  rw [← HWC.out];clear gr0 cf7 cf8 cf9 cf10;have cc:=blk10 HRC.out;refine bodyPost_ret (by simp [results,Tryz.results102,go_sem,cc] <;> rfl) rfl ?_;rw [HZ.out,HC.out];exact⟨_,_,rfl,Az HOW.out (fun b hb=>⟨by have h1:=hb.1;simp at h1;omega,by have h2:=hb.2;omega⟩),HXX.out⟩
 have cf11:=blk2 (Aa (hz1.t hx1) HB0.out.1);have cf12:=blk10 (Aa (hz1.t hx1) HB0.out.2.1);have cf13:=blk10 (Aa (hz1.t hx1) HB0.out.2.2);have cf14:=blk10 HB1.out
 go_wp2_with fail
 refine(s_CurrentHopValid x _ _ now _ (r0.ext ((hx0.t hz1).t hx1))).mono ?_;rintro e w2 ⟨rfl,hz2⟩
 cases bi:curIn x now
 ·
  have HC:=Ac (code_5 bo bi);have hsz:=(hx1.t hz2).size;have hso:w1.heap.size<w2.heap.size:=blk_lt (Aa hz2 HB1.out);have hR:=Aa ((hz1.t hx1).t hz2) HB0.out.2.2;have hO:=Aa hz2 HB1.out;obtain⟨wc,hwc,hrc,hcc,hsc⟩:=pk_set hR (.int .i64 z.kind) (.int .i64 z.src) (.int .i64 z.dst) ((.slice o1 z.path.parts.length c1)) (.int .i64 z.pi) (.int .i64 z.hi) (.int .i64 z.beta) (.int .i64 z.rid) (.int .i64 z.seq) ((.slice o2 z.pay.length c2));have HOW:=Ac (An (Ba OO.out (hx1.t hz2)) hcc (fun b hb e=>by have h1:=hb.1;have h2:=hb.2;simp at h1;omega));have HXX:=Ac ((((hx0.t hz1).t hx1).t hz2).chg1 hcc (by omega));have HWC:=Ac hwc;have HRC:=Ac hrc;have hsz2:w2.heap.size=wc.heap.size:=by rw [hsc]
  have gr0:=fr10 hR;clear hR hO hwc hrc hcc hsc
  try clear cf11
  try clear cf12
  try clear cf13
  try clear cf14
  have cf15:=blk2 (Aa ((hz1.t hx1).t hz2) HB0.out.1);have cf16:=blk10 (Aa ((hz1.t hx1).t hz2) HB0.out.2.1);have cf17:=blk10 (Aa ((hz1.t hx1).t hz2) HB0.out.2.2);have cf18:=blk10 (Aa hz2 HB1.out)
  go_wp2_with fail
  rw [← HWC.out];clear gr0 cf15 cf16 cf17 cf18;have cc:=blk10 HRC.out;refine bodyPost_ret (by simp [results,Tryz.results102,go_sem,cc] <;> rfl) rfl ?_;rw [HZ.out,HC.out];exact⟨_,_,rfl,Az HOW.out (fun b hb=>⟨by have h1:=hb.1;simp at h1;omega,by have h2:=hb.2;omega⟩),HXX.out⟩
 have HC:=Ac (code_0 bo bi);have hsz:=(hx1.t hz2).size;have hso:w1.heap.size<w2.heap.size:=blk_lt (Aa hz2 HB1.out);have hR:=Aa ((hz1.t hx1).t hz2) HB0.out.2.2;have hO:=Aa hz2 HB1.out;obtain⟨wc,hwc,hrc,hcc,hsc⟩:=pk_set hR (.int .i64 z.kind) (.int .i64 z.src) (.int .i64 z.dst) ((.slice o1 z.path.parts.length c1)) (.int .i64 z.pi) (.int .i64 z.hi) (.int .i64 z.beta) (.int .i64 z.rid) (.int .i64 z.seq) ((.slice o2 z.pay.length c2));have HOW:=Ac (An (Ba OO.out (hx1.t hz2)) hcc (fun b hb e=>by have h1:=hb.1;have h2:=hb.2;simp at h1;omega));have HXX:=Ac ((((hx0.t hz1).t hx1).t hz2).chg1 hcc (by omega));have HWC:=Ac hwc;have HRC:=Ac hrc;have hsz2:w2.heap.size=wc.heap.size:=by rw [hsc]
 have gr0:=fr10 hR;clear hR hO hwc hrc hcc hsc
 try clear cf11
 try clear cf12
 try clear cf13
 try clear cf14
 have cf19:=blk2 (Aa ((hz1.t hx1).t hz2) HB0.out.1);have cf20:=blk10 (Aa ((hz1.t hx1).t hz2) HB0.out.2.1);have cf21:=blk10 (Aa ((hz1.t hx1).t hz2) HB0.out.2.2);have cf22:=blk10 (Aa hz2 HB1.out)
 go_wp2_with fail
 rw [← HWC.out];clear gr0 cf19 cf20 cf21 cf22;have cc:=blk10 HRC.out;refine bodyPost_ret (by simp [results,Tryz.results102,go_sem,cc] <;> rfl) rfl ?_;rw [HZ.out,HC.out];exact⟨_,_,rfl,Az HOW.out (fun b hb=>⟨by have h1:=hb.1;simp at h1;omega,by have h2:=hb.2;omega⟩),HXX.out⟩
theorem i_decide1 (code:Int) (x:Pkt) (v0 v1:Value) (g:Nat) (w:World) (hg:w.heap[g]?=some (.cells #[.int .i64 x.kind,.int .i64 x.src,.int .i64 x.dst,v0,.int .i64 x.pi,.int .i64 x.hi,.int .i64 x.beta,.int .i64 x.rid,.int .i64 x.seq,v1] 35)) (r0:RdS Part.rep w v0 x.path.parts) (r1:RdS Rep.byte w v1 x.pay) (hl:x.size≤1048576) :
  Calls Tryz.prog 139 #[.int .i64 code,.pointer (some ⟨g,0,none⟩)] w fun e w'=>∃ u0 u1,e=.returned (.agg #[.int .i64 code,.int .i64 0,.int .i64 x.kind,.int .i64 x.src,.int .i64 x.dst,u0,.int .i64 x.pi,.int .i64 x.hi,.int .i64 x.beta,.int .i64 x.rid,.int .i64 x.seq,u1])∧Pkt.own (rng w.heap.size w'.heap.size) w' u0 u1 x∧Ext w w':=by
 have HG:=Ac hg;clear hg;obtain⟨hx0,HB0⟩:=ea1 w (.cells #[.int .i64 0,.int .i64 0,.int .i64 0,.int .i64 0,.int .i64 0,.slice none 0 0,.int .i64 0,.int .i64 0,.int .i64 0,.int .i64 0,.int .i64 0,.slice none 0 0] 76);replace HB0:=Ac HB0
 go_enter Tryz.func139,Tryz.ntmps139
 have cf1:=blk12 HB0.out;have cf2:=blk10 (Aa hx0 HG.out)
 go_wp2_with fail
 refine(i_copyPacket x _ _ _ (r0.ext hx0) (r1.ext hx0) hl).mono ?_;rintro e w1 ⟨u0,u1,rfl,oo,hz1⟩;obtain⟨o1,c1,rfl,_⟩:=(As oo).shape;obtain⟨o2,c2,rfl,_⟩:=(At oo).shape;have hs1:w.heap.size+1≤w1.heap.size:=by simpa using hz1.size
 have hR:=Aa hz1 HB0.out;obtain⟨wc,hwc,hrc,hcc,hsc⟩:=vd_set hR (.int .i64 code) (.int .i64 0) (.int .i64 x.kind) (.int .i64 x.src) (.int .i64 x.dst) ((.slice o1 x.path.parts.length c1)) (.int .i64 x.pi) (.int .i64 x.hi) (.int .i64 x.beta) (.int .i64 x.rid) (.int .i64 x.seq) ((.slice o2 x.pay.length c2));have HOW:=Ac (An oo hcc (fun b hb e=>by have h1:=hb.1;have h2:=hb.2;simp at h1;omega));have HXX:=Ac ((hx0.t hz1).chg1 hcc (by omega));have HWC:=Ac hwc;have HRC:=Ac hrc;have hsz2:w1.heap.size=wc.heap.size:=by rw [hsc]
 have gr0:=fr12 hR;clear hR hwc hrc hcc hsc;clear oo
 try clear cf1
 try clear cf2
 have cf3:=blk12 (Aa hz1 HB0.out);have cf4:=blk10 (Aa (hx0.t hz1) HG.out)
 go_wp2_with fail
 rw [← HWC.out];clear gr0 cf3 cf4;have cc:=blk12 HRC.out;refine bodyPost_ret (by simp [results,Tryz.results139,go_sem,cc] <;> rfl) rfl ?_;exact⟨_,_,rfl,Az HOW.out (fun b hb=>⟨by have h1:=hb.1;simp at h1;omega,by have h2:=hb.2;omega⟩),HXX.out⟩
theorem s_l28No (code:Int) (x:Pkt) (v0 v1:Value) (w:World) (r0:RdS Part.rep w v0 x.path.parts) (r1:RdS Rep.byte w v1 x.pay) (hl:x.size≤1048576) :
  Calls Tryz.prog 101 #[.int .i64 code,.agg #[.int .i64 x.kind,.int .i64 x.src,.int .i64 x.dst,v0,.int .i64 x.pi,.int .i64 x.hi,.int .i64 x.beta,.int .i64 x.rid,.int .i64 x.seq,v1]] w fun e w'=>∃ u0 u1,e=.returned (.agg #[.int .i64 code,.int .i64 0,.int .i64 x.kind,.int .i64 x.src,.int .i64 x.dst,u0,.int .i64 x.pi,.int .i64 x.hi,.int .i64 x.beta,.int .i64 x.rid,.int .i64 x.seq,u1])∧Pkt.own (rng w.heap.size w'.heap.size) w' u0 u1 x∧Ext w w':=by
 obtain⟨hx0,HB0⟩:=ea2 w (.cells #[.int .i64 x.kind,.int .i64 x.src,.int .i64 x.dst,v0,.int .i64 x.pi,.int .i64 x.hi,.int .i64 x.beta,.int .i64 x.rid,.int .i64 x.seq,v1] 35) (.cells #[.int .i64 0,.int .i64 0,.int .i64 0,.int .i64 0,.int .i64 0,.slice none 0 0,.int .i64 0,.int .i64 0,.int .i64 0,.int .i64 0,.int .i64 0,.slice none 0 0] 76);replace HB0:=Ac HB0
 go_enter Tryz.func101,Tryz.ntmps101
 have cf1:=blk10 HB0.out.1;have cf2:=blk12 HB0.out.2
 go_wp2_with fail
 refine(s_l26Copy x _ _ _ (r0.ext hx0) (r1.ext hx0) hl).mono ?_;rintro e w1 ⟨u0,u1,rfl,oo,hz1⟩;obtain⟨o1,c1,rfl,_⟩:=(As oo).shape;obtain⟨o2,c2,rfl,_⟩:=(At oo).shape;have hs1:w.heap.size+1+1≤w1.heap.size:=by simpa using hz1.size
 have hR:=Aa hz1 HB0.out.2;obtain⟨wc,hwc,hrc,hcc,hsc⟩:=vd_set hR (.int .i64 code) (.int .i64 0) (.int .i64 x.kind) (.int .i64 x.src) (.int .i64 x.dst) ((.slice o1 x.path.parts.length c1)) (.int .i64 x.pi) (.int .i64 x.hi) (.int .i64 x.beta) (.int .i64 x.rid) (.int .i64 x.seq) ((.slice o2 x.pay.length c2));have HOW:=Ac (An oo hcc (fun b hb e=>by have h1:=hb.1;have h2:=hb.2;simp at h1;omega));have HXX:=Ac ((hx0.t hz1).chg1 hcc (by omega));have HWC:=Ac hwc;have HRC:=Ac hrc;have hsz2:w1.heap.size=wc.heap.size:=by rw [hsc]
 have gr0:=fr12 hR;clear hR hwc hrc hcc hsc;clear oo
 try clear cf1
 try clear cf2
 have cf3:=blk10 (Aa hz1 HB0.out.1);have cf4:=blk12 (Aa hz1 HB0.out.2)
 go_wp2_with fail
 rw [← HWC.out];clear gr0 cf3 cf4;have cc:=blk12 HRC.out;refine bodyPost_ret (by simp [results,Tryz.results101,go_sem,cc] <;> rfl) rfl ?_;exact⟨_,_,rfl,Az HOW.out (fun b hb=>⟨by have h1:=hb.1;simp at h1;omega,by have h2:=hb.2;omega⟩),HXX.out⟩
end
end Go.Proofs.YteodlcpeoaggbaaGreat
