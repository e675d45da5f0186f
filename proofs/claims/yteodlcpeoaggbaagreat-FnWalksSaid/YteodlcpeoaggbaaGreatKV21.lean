/- What these laws need: FnOld, FnWalks: Contracts of what becomes of a packet at an AS, program and reference. -/
import Derived.Test.YteodlcpeoaggbaaGreatKV19
namespace Go.Proofs.YteodlcpeoaggbaaGreat
section
open Go.ChangeShapes Go.WideShapes Go.ChangeAt Go.RowKit Go.Deep
set_option maxRecDepth 100000
set_option maxHeartbeats 40000000
theorem fw_bad {t:Topo} {r now dead inn:Int} {x:Pkt} (h:(validPkt x && simple t x.path && (curAs x == r))=false):forward t r now dead inn x=⟨2,0,x⟩:=by unfold forward;rw [h];rfl
theorem fw_in {t:Topo} {r now dead inn:Int} {x:Pkt} (h:(validPkt x && simple t x.path && (curAs x == r))=true) (h2:(inn != wantIn x)=true):forward t r now dead inn x=⟨3,0,x⟩:=by unfold forward;rw [h,h2];rfl
theorem fw_chk {t:Topo} {r now dead inn c:Int} {x z:Pkt} (h:(validPkt x && simple t x.path && (curAs x == r))=true) (h2:(inn != wantIn x)=false) (hc:chkAll t now x.path.parts.length x=(c,z)) (h3:¬ c=0):forward t r now dead inn x=⟨c,0,x⟩:=by
 unfold forward;rw [h,h2,hc];simp [h3]
theorem fw_del {t:Topo} {r now dead inn:Int} {x z:Pkt} (h:(validPkt x && simple t x.path && (curAs x == r))=true) (h2:(inn != wantIn x)=false) (hc:chkAll t now x.path.parts.length x=(0,z)) (h3:atLast z=true):forward t r now dead inn x=if z.dst == r then ⟨1,0,z⟩ else ⟨2,0,x⟩:=by
 unfold forward;rw [h,h2,hc];simp [h3]
theorem fw_out {t:Topo} {r now dead inn:Int} {x z:Pkt} (h:(validPkt x && simple t x.path && (curAs x == r))=true) (h2:(inn != wantIn x)=false) (hc:chkAll t now x.path.parts.length x=(0,z)) (h3:atLast z=false) :
  forward t r now dead inn x=if !(stepOk t ⟨r,inn,partEg (curPart z) z.hi⟩) then ⟨6,0,x⟩ else if inSet dead (partEg (curPart z) z.hi) then ⟨7,0,x⟩ else ⟨0,partEg (curPart z) z.hi,advance z⟩:=by
 unfold forward;rw [h,h2,hc];simp [h3]
theorem chk_stop {t:Topo} {now:Int} {f:Nat} {x:Pkt} (h:(chkCode t now x == 0 && lastOf (verCur t x) && !(atLast (verCur t x)))=false):chkAll t now f x=(chkCode t now x,verCur t x):=by
 cases f with
 | zero => rfl
 | succ f => unfold chkAll; rw [h]; rfl
theorem chk_go {t:Topo} {now:Int} {f:Nat} {x:Pkt} (h:chkCode t now x=0) (h2:lastOf (verCur t x)=true) (h3:atLast (verCur t x)=false):chkAll t now (f+1) x=chkAll t now f (advance (verCur t x)):=by
 rw [chkAll,h,h2,h3];rfl
theorem code_has {t:Topo} {now:Int} {x:Pkt} (h:chkCode t now x=0):hasHop (verCur t x)=true∧¬ curAs (verCur t x)<0:=by
 have h1:curOk t x=true:=by
  cases hh:curOk t x
  ·
   rw [code_4 hh] at h;exact absurd h (by decide)
  rfl
 have h2:¬ curAs (verCur t x)<0:=by
  intro hn;rw [verCur_curAs] at hn;rw [curOk_neg hn] at h1;cases h1
 exact⟨curAs_has h2,h2⟩
theorem adv_path (x:Pkt):(advance x).path=x.path:=by unfold advance;split;rfl;split <;> rfl
theorem adv_size (x:Pkt):(advance x).size=x.size:=by unfold Pkt.size;rw [adv_path];unfold advance;split;rfl;split <;> rfl
theorem adv_pi {x:Pkt} (h:¬ curAs x<0) (h2:atLast x=false) (h3:lastOf x=true):(advance x).pi.toNat=x.pi.toNat+1:=by
 obtain⟨⟨p0,_⟩,_⟩:=Cc (curAs_has h);rw [adv_3 h h2 h3];show(x.pi+1).toNat=_;omega
theorem wantIn_t {x:Pkt} (h:((x.pi == 0) && (x.hi == 0))=true):wantIn x=0:=by unfold wantIn;rw [h];rfl
theorem wantIn_f {x:Pkt} (h:((x.pi == 0) && (x.hi == 0))=false):wantIn x=partIn (curPart x) x.hi:=by unfold wantIn;rw [h];rfl
theorem valid_has {x:Pkt} (h:validPkt x=true):hasHop x=true:=by
 rw [validPkt_eq] at h;simp only [Bool.and_eq_true] at h;exact h.1.1.1.2
def CurSt (lo g:Nat) (z:Pkt) (c:Int) (w:World):Prop:=
 ∃ (o0:Option Addr) (n0 c0:Nat) (o1:Option Addr) (n1 c1:Nat) (S:Nat→Prop),w.heap[g]?=some (.cells #[.int .i64 z.kind,.int .i64 z.src,.int .i64 z.dst,.slice o0 n0 c0,.int .i64 z.pi,.int .i64 z.hi,.int .i64 z.beta,.int .i64 z.rid,.int .i64 z.seq,.slice o1 n1 c1] 35) ∧
  (c=0→Pkt.own S w (.slice o0 n0 c0) (.slice o1 n1 c1) z)∧∀ b,S b→lo≤b∧b<w.heap.size∧b≠g
theorem i_decide (t:Topo) (va vk:Value) (r now dead inn:Int) (x:Pkt) (v0 v1:Value) (w:World) (ha:RdS ASd.rep w va t.ases) (hk:RdS Lnk.rep w vk t.links) (r0:RdS Part.rep w v0 x.path.parts) (r1:RdS Rep.byte w v1 x.pay) (hl:x.size≤1048576) :
  Calls Tryz.prog 92 #[.agg #[va,vk],.int .i64 r,.int .i64 now,.int .i64 dead,.int .i64 inn,.agg #[.int .i64 x.kind,.int .i64 x.src,.int .i64 x.dst,v0,.int .i64 x.pi,.int .i64 x.hi,.int .i64 x.beta,.int .i64 x.rid,.int .i64 x.seq,v1]] w fun e w'=>∃ u0 u1 out,e=.returned (.tuple #[.agg #[.int .i64 (forward t r now dead inn x).code,.int .i64 (forward t r now dead inn x).eg,.int .i64 (forward t r now dead inn x).pkt.kind,.int .i64 (forward t r now dead inn x).pkt.src,.int .i64 (forward t r now dead inn x).pkt.dst,u0,.int .i64 (forward t r now dead inn x).pkt.pi,.int .i64 (forward t r now dead inn x).pkt.hi,.int .i64 (forward t r now dead inn x).pkt.beta,.int .i64 (forward t r now dead inn x).pkt.rid,.int .i64 (forward t r now dead inn x).pkt.seq,u1],.int .i64 out])∧Pkt.own (rng w.heap.size w'.heap.size) w' u0 u1 (forward t r now dead inn x).pkt∧Ext w w':=by
 have hlp:x.path.size≤1048576:=by unfold Pkt.size at hl;omega
 obtain⟨o,cap,rfl,hsm⟩:=r0.shape;obtain⟨oy,cy,rfl,hsy⟩:=r1.shape;obtain⟨hx0,HB0⟩:=ea3 w (.cells #[va,vk] 27) (.cells #[.int .i64 x.kind,.int .i64 x.src,.int .i64 x.dst,.slice o x.path.parts.length cap,.int .i64 x.pi,.int .i64 x.hi,.int .i64 x.beta,.int .i64 x.rid,.int .i64 x.seq,.slice oy x.pay.length cy] 35) (.cells #[.int .i64 0,.int .i64 0,.int .i64 0,.int .i64 0,.int .i64 0,.slice none 0 0,.int .i64 0,.int .i64 0,.int .i64 0,.int .i64 0,.int .i64 0,.slice none 0 0] 76);replace HB0:=Ac HB0
 go_enter Tryz.func92,Tryz.ntmps92
 have cf1:=blk2 HB0.out.1;have cf2:=blk10 HB0.out.2.1;have cf3:=blk12 HB0.out.2.2
 go_wp2_with fail
 refine(i_ValidPacket x _ _ _ (r0.ext hx0) (r1.ext hx0)).mono ?_;rintro e w1 ⟨rfl,hz1⟩
 cases bv:validPkt x
 ·
  have HE:=Ac (fw_bad (t:=t) (r:=r) (now:=now) (dead:=dead) (inn:=inn) (x:=x) (by rw [bv];rfl))
  try clear cf1
  try clear cf2
  try clear cf3
  have cf4:=blk2 (Aa hz1 HB0.out.1);have cf5:=blk10 (Aa hz1 HB0.out.2.1);have cf6:=blk12 (Aa hz1 HB0.out.2.2)
  go_wp2_with fail
  refine(i_decide1 (2) x _ _ (w.heap.size+1) _ (Aa hz1 HB0.out.2.1) (r0.ext (hx0.t hz1)) (r1.ext (hx0.t hz1)) hl).mono ?_;rintro e w2 ⟨u0,u1,rfl,oo,hz2⟩;obtain⟨oa,ca,rfl,_⟩:=(As oo).shape;obtain⟨ob,cb,rfl,_⟩:=(At oo).shape;have hs1:w.heap.size+1+1+1≤w1.heap.size:=by simpa using hz1.size
  have OX:=Ac oo;clear oo;have hR:=Aa (hz1.t hz2) HB0.out.2.2;obtain⟨wc,hwc,hrc,hcc,hsc⟩:=vd_set hR (.int .i64 (2)) (.int .i64 0) (.int .i64 x.kind) (.int .i64 x.src) (.int .i64 x.dst) ((.slice oa x.path.parts.length ca)) (.int .i64 x.pi) (.int .i64 x.hi) (.int .i64 x.beta) (.int .i64 x.rid) (.int .i64 x.seq) ((.slice ob x.pay.length cb));have HOW:=Ac (An OX.out hcc (fun b hb e=>by have h1:=hb.1;have h2:=hb.2;have h3:=hs1;((try simp at h1) <;> omega)));have HXX:=Ac (((hx0.t hz1).t hz2).chg1 hcc (by omega));have HWC:=Ac hwc;have HRC:=Ac hrc;have hsz2:w2.heap.size=wc.heap.size:=by rw [hsc]
  have gr0:=fr12 hR;clear hR hwc hrc hcc hsc
  try clear cf4
  try clear cf5
  try clear cf6
  have cf7:=blk2 (Aa (hz1.t hz2) HB0.out.1);have cf8:=blk10 (Aa (hz1.t hz2) HB0.out.2.1);have cf9:=blk12 (Aa (hz1.t hz2) HB0.out.2.2)
  go_wp2_with fail
  rw [← HWC.out];clear gr0 cf7 cf8 cf9;have cc:=blk12 HRC.out;refine bodyPost_ret (by simp [results,Tryz.results92,go_sem,cc] <;> rfl) rfl ?_;rw [HE.out];exact⟨_,_,_,rfl,Az HOW.out (fun b hb=>⟨by have h1:=hb.1;have h3:=hs1;omega,by have h2:=hb.2;omega⟩),HXX.out⟩
 try clear cf1
 try clear cf2
 try clear cf3
 have cf10:=blk2 (Aa hz1 HB0.out.1);have cf11:=blk10 (Aa hz1 HB0.out.2.1);have cf12:=blk12 (Aa hz1 HB0.out.2.2)
 go_wp2_with fail
 refine(i_SimplePath t _ _ x.path _ _ (ha.ext (hx0.t hz1)) (hk.ext (hx0.t hz1)) (r0.ext (hx0.t hz1)) hlp).mono ?_;rintro e w3 ⟨rfl,hz3⟩
 cases bs:simple t x.path
 ·
  have HE:=Ac (fw_bad (t:=t) (r:=r) (now:=now) (dead:=dead) (inn:=inn) (x:=x) (by rw [bs];simp))
  try clear cf10
  try clear cf11
  try clear cf12
  have cf13:=blk2 (Aa (hz1.t hz3) HB0.out.1);have cf14:=blk10 (Aa (hz1.t hz3) HB0.out.2.1);have cf15:=blk12 (Aa (hz1.t hz3) HB0.out.2.2)
  go_wp2_with fail
  refine(i_decide1 (2) x _ _ (w.heap.size+1) _ (Aa (hz1.t hz3) HB0.out.2.1) (r0.ext ((hx0.t hz1).t hz3)) (r1.ext ((hx0.t hz1).t hz3)) hl).mono ?_;rintro e w4 ⟨u0,u1,rfl,oo,hz4⟩;obtain⟨oa,ca,rfl,_⟩:=(As oo).shape;obtain⟨ob,cb,rfl,_⟩:=(At oo).shape;have hs1:w.heap.size+1+1+1≤w3.heap.size:=by simpa using (hz1.t hz3).size
  have OX:=Ac oo;clear oo;have hR:=Aa ((hz1.t hz3).t hz4) HB0.out.2.2;obtain⟨wc,hwc,hrc,hcc,hsc⟩:=vd_set hR (.int .i64 (2)) (.int .i64 0) (.int .i64 x.kind) (.int .i64 x.src) (.int .i64 x.dst) ((.slice oa x.path.parts.length ca)) (.int .i64 x.pi) (.int .i64 x.hi) (.int .i64 x.beta) (.int .i64 x.rid) (.int .i64 x.seq) ((.slice ob x.pay.length cb));have HOW:=Ac (An OX.out hcc (fun b hb e=>by have h1:=hb.1;have h2:=hb.2;have h3:=hs1;((try simp at h1) <;> omega)));have HXX:=Ac ((((hx0.t hz1).t hz3).t hz4).chg1 hcc (by omega));have HWC:=Ac hwc;have HRC:=Ac hrc;have hsz2:w4.heap.size=wc.heap.size:=by rw [hsc]
  have gr0:=fr12 hR;clear hR hwc hrc hcc hsc
  try clear cf13
  try clear cf14
  try clear cf15
  have cf16:=blk2 (Aa ((hz1.t hz3).t hz4) HB0.out.1);have cf17:=blk10 (Aa ((hz1.t hz3).t hz4) HB0.out.2.1);have cf18:=blk12 (Aa ((hz1.t hz3).t hz4) HB0.out.2.2)
  go_wp2_with fail
  rw [← HWC.out];clear gr0 cf16 cf17 cf18;have cc:=blk12 HRC.out;refine bodyPost_ret (by simp [results,Tryz.results92,go_sem,cc] <;> rfl) rfl ?_;rw [HE.out];exact⟨_,_,_,rfl,Az HOW.out (fun b hb=>⟨by have h1:=hb.1;have h3:=hs1;omega,by have h2:=hb.2;omega⟩),HXX.out⟩
 try clear cf10
 try clear cf11
 try clear cf12
 have cf19:=blk2 (Aa (hz1.t hz3) HB0.out.1);have cf20:=blk10 (Aa (hz1.t hz3) HB0.out.2.1);have cf21:=blk12 (Aa (hz1.t hz3) HB0.out.2.2)
 go_wp2_with fail
 refine(i_CurrentAS x _ _ _ (r0.ext ((hx0.t hz1).t hz3))).mono ?_;rintro e w5 ⟨rfl,hz5⟩
 cases bc:(curAs x == r)
 ·
  have bc':(curAs x != r)=true:=by simp only [bne,bc];rfl
  have HE:=Ac (fw_bad (t:=t) (r:=r) (now:=now) (dead:=dead) (inn:=inn) (x:=x) (by rw [bc];simp))
  try clear cf19
  try clear cf20
  try clear cf21
  have cf22:=blk2 (Aa ((hz1.t hz3).t hz5) HB0.out.1);have cf23:=blk10 (Aa ((hz1.t hz3).t hz5) HB0.out.2.1);have cf24:=blk12 (Aa ((hz1.t hz3).t hz5) HB0.out.2.2)
  go_wp2_with fail
  refine(i_decide1 (2) x _ _ (w.heap.size+1) _ (Aa ((hz1.t hz3).t hz5) HB0.out.2.1) (r0.ext (((hx0.t hz1).t hz3).t hz5)) (r1.ext (((hx0.t hz1).t hz3).t hz5)) hl).mono ?_;rintro e w6 ⟨u0,u1,rfl,oo,hz6⟩;obtain⟨oa,ca,rfl,_⟩:=(As oo).shape;obtain⟨ob,cb,rfl,_⟩:=(At oo).shape;have hs1:w.heap.size+1+1+1≤w5.heap.size:=by simpa using ((hz1.t hz3).t hz5).size
  have OX:=Ac oo;clear oo;have hR:=Aa (((hz1.t hz3).t hz5).t hz6) HB0.out.2.2;obtain⟨wc,hwc,hrc,hcc,hsc⟩:=vd_set hR (.int .i64 (2)) (.int .i64 0) (.int .i64 x.kind) (.int .i64 x.src) (.int .i64 x.dst) ((.slice oa x.path.parts.length ca)) (.int .i64 x.pi) (.int .i64 x.hi) (.int .i64 x.beta) (.int .i64 x.rid) (.int .i64 x.seq) ((.slice ob x.pay.length cb));have HOW:=Ac (An OX.out hcc (fun b hb e=>by have h1:=hb.1;have h2:=hb.2;have h3:=hs1;((try simp at h1) <;> omega)));have HXX:=Ac (((((hx0.t hz1).t hz3).t hz5).t hz6).chg1 hcc (by omega));have HWC:=Ac hwc;have HRC:=Ac hrc;have hsz2:w6.heap.size=wc.heap.size:=by rw [hsc]
  have gr0:=fr12 hR;clear hR hwc hrc hcc hsc
  try clear cf22
  try clear cf23
  try clear cf24
  have cf25:=blk2 (Aa (((hz1.t hz3).t hz5).t hz6) HB0.out.1);have cf26:=blk10 (Aa (((hz1.t hz3).t hz5).t hz6) HB0.out.2.1);have cf27:=blk12 (Aa (((hz1.t hz3).t hz5).t hz6) HB0.out.2.2)
  go_wp2_with fail
  rw [← HWC.out];clear gr0 cf25 cf26 cf27;have cc:=blk12 HRC.out;refine bodyPost_ret (by simp [results,Tryz.results92,go_sem,cc] <;> rfl) rfl ?_;rw [HE.out];exact⟨_,_,_,rfl,Az HOW.out (fun b hb=>⟨by have h1:=hb.1;have h3:=hs1;omega,by have h2:=hb.2;omega⟩),HXX.out⟩
 have bc':(curAs x != r)=false:=by simp only [bne,bc];rfl
 have HB:=Ac (show(validPkt x && simple t x.path && (curAs x == r))=true by rw [bv,bs,bc];rfl);obtain⟨⟨p0,p1,p2⟩,q0,q1,q2⟩:=Cc (valid_has bv);have hcp:=curPart_at p2;obtain⟨b,off,oh,ch,rfl,hc,hr⟩:=Bx r0 x.pi.toNat p2;rw [← hcp] at hc hr;clear hcp bv bs bc
 try clear cf19
 try clear cf20
 try clear cf21
 have cf28:=blk2 (Aa ((hz1.t hz3).t hz5) HB0.out.1);have cf29:=blk10 (Aa ((hz1.t hz3).t hz5) HB0.out.2.1);have cf30:=blk12 (Aa ((hz1.t hz3).t hz5) HB0.out.2.2);have cf31:=Ag (((hx0.t hz1).t hz3).t hz5) hc
 go_wp2_with fail
 refine Al (by kernel_rfl) (by kernel_rfl) ?_;have q0:=Br cf28;have q2:=Bp cf29;have q12:=ExtW.c12 cf30;have q24:=Bm cf31
 repeat (first | go_big_quiet_step (((first | (go_at_call 74;exact Ai (i_PartIngress (curPart x) _ x.hi _ ((hr.ext (((hx0.t hz1).t hz3).t hz5)).ext (ExtW.h _))))))) | quiet_step (((first | (go_at_call 74;exact Ai (i_PartIngress (curPart x) _ x.hi _ ((hr.ext (((hx0.t hz1).t hz3).t hz5)).ext (ExtW.h _))))))))
 refine wpQuiet_nil ?_;intro w7 hw7;have hz7:=Bc hw7;clear hw7 q0 q2 q12 q24;have HWF:=Ac (fun(h:((x.pi == 0) && (x.hi == 0))=false)=>(wantIn_f h).symm);have HWT:=Ac (fun(h:((x.pi == 0) && (x.hi == 0))=true)=>(wantIn_t h).symm)
 try clear cf28
 try clear cf29
 try clear cf30
 try clear cf31
 have cf32:=blk2 (Aa (((hz1.t hz3).t hz5).t hz7) HB0.out.1);have cf33:=blk10 (Aa (((hz1.t hz3).t hz5).t hz7) HB0.out.2.1);have cf34:=blk12 (Aa (((hz1.t hz3).t hz5).t hz7) HB0.out.2.2);have cf35:=Ag ((((hx0.t hz1).t hz3).t hz5).t hz7) hc
 go_upto_region 5 with (fail)
 go_cut [55] (fun c wx=>∃ cb:Bool,c=.bool cb∧Hid (((x.pi == 0) && (x.hi == 0))=cb)∧w7=wx)
 case first=>
  cases hp:(x.pi == 0)
  ·
   go_wp2_with fail
   go_meet
   exact⟨false,rfl,Ac (by rw [hp];rfl),rfl⟩
  go_wp2_with fail
  go_meet
  exact⟨_,rfl,Ac (by rw [hp];rfl),rfl⟩
 case rest=>
  obtain⟨cb,rfl,HCB,hwq⟩:=hcut;subst hwq
  go_upto_if 55 with (fail)
  go_cut [15] (fun c wx=>c=.int .i64 (wantIn x)∧w7=wx)
  case first=>
   cases cb
   ·
    go_wp2_with fail
    go_meet
    exact⟨congrArg (Value.int .i64) (HWF.out HCB.out),rfl⟩
   go_wp2_with fail
   go_meet
   exact⟨congrArg (Value.int .i64) (HWT.out HCB.out),rfl⟩
  case rest=>
   obtain⟨rfl,hwq⟩:=hcut;subst hwq
   cases bw:(inn == wantIn x)
   ·
    have bw':(inn != wantIn x)=true:=by simp only [bne,bw];rfl
    have HE:=Ac (fw_in (now:=now) (dead:=dead) HB.out bw')
    go_wp2_with fail
    refine(i_decide1 (3) x _ _ (w.heap.size+1) _ (Aa (((hz1.t hz3).t hz5).t hz7) HB0.out.2.1) (r0.ext ((((hx0.t hz1).t hz3).t hz5).t hz7)) (r1.ext ((((hx0.t hz1).t hz3).t hz5).t hz7)) hl).mono ?_;rintro e w8 ⟨u0,u1,rfl,oo,hz8⟩;obtain⟨oa,ca,rfl,_⟩:=(As oo).shape;obtain⟨ob,cb,rfl,_⟩:=(At oo).shape;have hs1:w.heap.size+1+1+1≤w7.heap.size:=by simpa using (((hz1.t hz3).t hz5).t hz7).size
    have OX:=Ac oo;clear oo;have hR:=Aa ((((hz1.t hz3).t hz5).t hz7).t hz8) HB0.out.2.2;obtain⟨wc,hwc,hrc,hcc,hsc⟩:=vd_set hR (.int .i64 (3)) (.int .i64 0) (.int .i64 x.kind) (.int .i64 x.src) (.int .i64 x.dst) ((.slice oa x.path.parts.length ca)) (.int .i64 x.pi) (.int .i64 x.hi) (.int .i64 x.beta) (.int .i64 x.rid) (.int .i64 x.seq) ((.slice ob x.pay.length cb));have HOW:=Ac (An OX.out hcc (fun b hb e=>by have h1:=hb.1;have h2:=hb.2;have h3:=hs1;((try simp at h1) <;> omega)));have HXX:=Ac ((((((hx0.t hz1).t hz3).t hz5).t hz7).t hz8).chg1 hcc (by omega));have HWC:=Ac hwc;have HRC:=Ac hrc;have hsz2:w8.heap.size=wc.heap.size:=by rw [hsc]
    have gr0:=fr12 hR;clear hR hwc hrc hcc hsc
    try clear cf32
    try clear cf33
    try clear cf34
    try clear cf35
    have cf36:=blk2 (Aa ((((hz1.t hz3).t hz5).t hz7).t hz8) HB0.out.1);have cf37:=blk10 (Aa ((((hz1.t hz3).t hz5).t hz7).t hz8) HB0.out.2.1);have cf38:=blk12 (Aa ((((hz1.t hz3).t hz5).t hz7).t hz8) HB0.out.2.2);have cf39:=Ag (((((hx0.t hz1).t hz3).t hz5).t hz7).t hz8) hc
    go_wp2_with fail
    rw [← HWC.out];clear gr0 cf36 cf37 cf38 cf39;have cc:=blk12 HRC.out;refine bodyPost_ret (by simp [results,Tryz.results92,go_sem,cc] <;> rfl) rfl ?_;rw [HE.out];exact⟨_,_,_,rfl,Az HOW.out (fun b hb=>⟨by have h1:=hb.1;have h3:=hs1;omega,by have h2:=hb.2;omega⟩),HXX.out⟩
   have bw':(inn != wantIn x)=false:=by simp only [bne,bw];rfl
   have HW:=Ac bw';generalize wantIn x=wi at bw'
   go_upto_region 9 with (fail)
   go_cut [16,17] (fun v16 v17 wx=>∃ g:Nat,v16=.pointer (some ⟨g,0,none⟩)∧v17=.int .i64 (chkCode t now x)∧CurSt w7.heap.size g (chkP t now x) (chkCode t now x) wx∧w7.heap.size≤g∧Ext w7 wx)
   case first=>
    refine Ax (.blk [0,1,2] (.two 3 8 (.two 4 8 (.blk [5,6,7] (.one 8 (.one 9 (.blk [10] .done)))) (.one 4 (.blk [5,6,7] (.one 9 (.blk [10] .done))))) (.one 3 (.one 4 (.blk [5,6,7] (.one 9 (.blk [10] .done))))))) [9] (by kernel_rfl) (by kernel_rfl) ?_;refine blkStep (fun K HK=>?_);simp only [PK]
    go_wp2_with fail
    refine HK.out _ _ ?_;clear HK K;refine twoStep ?_ ?_
    ·
     refine oneStep (fun K HK=>?_);simp only [PK]
     go_wp2_with fail
     refine(i_copyPacket x _ _ _ (r0.ext (((((hx0.t hz1).t hz3).t hz5).t hz7).trans (Ab _).drew)) (r1.ext (((((hx0.t hz1).t hz3).t hz5).t hz7).trans (Ab _).drew)) hl).mono ?_;rintro e wk0 ⟨a0,a1,rfl,oa,hk0⟩;obtain⟨oa1,ca1,rfl,_⟩:=(As oa).shape;obtain⟨oa2,ca2,rfl,_⟩:=(At oa).shape;have hcc1:=blk2 (Aa ((((hz1.t hz3).t hz5).t hz7).trans ((Ab _).drew.trans hk0)) HB0.out.1);have hcc2:=blk10 (Aa ((((hz1.t hz3).t hz5).t hz7).trans ((Ab _).drew.trans hk0)) HB0.out.2.1);have hcc3:=blk12 (Aa ((((hz1.t hz3).t hz5).t hz7).trans ((Ab _).drew.trans hk0)) HB0.out.2.2);have hcc4:=Ag (((((hx0.t hz1).t hz3).t hz5).t hz7).trans ((Ab _).drew.trans hk0)) hc
     go_wp2_with fail
     refine HK.out _ _ hk0 ?_;clear HK K;refine twoStep ?_ ?_
     ·
      refine oneStep (fun K HK=>?_);simp only [PK]
      go_wp2_with fail
      refine(i_checkHop t _ _ now x _ _ _ (ha.ext (((((hx0.t hz1).t hz3).t hz5).t hz7).trans ((Ab _).drew.trans hk0))) (hk.ext (((((hx0.t hz1).t hz3).t hz5).t hz7).trans ((Ab _).drew.trans hk0))) (As (Ba oa (Ab _))) (At (Ba oa (Ab _))) hl).mono ?_;rintro e wk1 ⟨u0,u1,rfl,ru0,ru1,ou,hk1⟩;obtain⟨o0,c0,rfl,_⟩:=ru0.shape;obtain⟨o1,c1,rfl,_⟩:=ru1.shape;have hcc5:=blk2 (Aa ((((hz1.t hz3).t hz5).t hz7).trans (((Ab _).drew.trans hk0).trans hk1)) HB0.out.1);have hcc6:=blk10 (Aa ((((hz1.t hz3).t hz5).t hz7).trans (((Ab _).drew.trans hk0).trans hk1)) HB0.out.2.1);have hcc7:=blk12 (Aa ((((hz1.t hz3).t hz5).t hz7).trans (((Ab _).drew.trans hk0).trans hk1)) HB0.out.2.2);have hcc8:=Ag (((((hx0.t hz1).t hz3).t hz5).t hz7).trans (((Ab _).drew.trans hk0).trans hk1)) hc
      go_wp2_with fail
      refine HK.out _ _ hk1 ?_;clear HK K;refine blkStep (fun K HK=>?_);simp only [PK]
      go_wp2_with fail
      refine HK.out _ _ ?_;clear HK K;refine oneStep (fun K HK=>?_);simp only [PK]
      go_wp2_with fail
      refine HK.out _ _ ((Ab _).alloc _) ?_;clear HK K;refine badStep (by kernel_rfl) (fun K HK=>?_);simp only [PK]
      go_wp2_with fail
      refine HK.out _ _ ?_;clear HK K;refine blkStep (fun K HK=>?_);simp only [PK]
      go_wp2_with fail
      refine HK.out _ _ ?_;clear HK K;refine Ap (by kernel_rfl) ?_
      go_wp2_with fail
      go_meet
      exact⟨_,rfl,rfl,⟨o0,_,c0,o1,_,c1,_,blk_new _ _,fun h=>Ba (ou h) ((Ab _).alloc _),fun b hb=>⟨Ad ((Ab _).drew.trans hk0).size hb.1,Ak hb.2 ((Ab _).alloc _).size,fun e=>by rw [e] at hb;exact absurd hb.2 (Nat.lt_irrefl _)⟩⟩,(((Ab _).drew.trans hk0).trans hk1).size,(((Ab _).drew.trans hk0).trans hk1).alloc _⟩
     have hba:=blk_new wk0 (.cells #[.int .i64 0,.int .i64 0,.int .i64 0,.slice none 0 0,.int .i64 0,.int .i64 0,.int .i64 0,.int .i64 0,.int .i64 0,.slice none 0 0] 35);have HBA:=Ac hba;clear hba;refine oneStep (fun K HK=>?_);simp only [PK]
     go_wp2_with fail
     refine HK.out _ _ ((Ab _).alloc _) ?_;clear HK K;refine oneStep (fun K HK=>?_);simp only [PK]
     go_wp2_with fail
     refine(i_checkHop t _ _ now x _ _ _ (ha.ext (((((hx0.t hz1).t hz3).t hz5).t hz7).trans (((Ab _).drew.trans hk0).trans ((Ab _).alloc _)))) (hk.ext (((((hx0.t hz1).t hz3).t hz5).t hz7).trans (((Ab _).drew.trans hk0).trans ((Ab _).alloc _)))) (As (Ba oa ((Ab _).alloc _))) (At (Ba oa ((Ab _).alloc _))) hl).mono ?_;rintro e wk1 ⟨u0,u1,rfl,ru0,ru1,ou,hk1⟩;obtain⟨o0,c0,rfl,_⟩:=ru0.shape;obtain⟨o1,c1,rfl,_⟩:=ru1.shape;have hcc9:=blk2 (Aa ((((hz1.t hz3).t hz5).t hz7).trans ((((Ab _).drew.trans hk0).trans ((Ab _).alloc _)).trans hk1)) HB0.out.1);have hcc10:=blk10 (Aa ((((hz1.t hz3).t hz5).t hz7).trans ((((Ab _).drew.trans hk0).trans ((Ab _).alloc _)).trans hk1)) HB0.out.2.1);have hcc11:=blk12 (Aa ((((hz1.t hz3).t hz5).t hz7).trans ((((Ab _).drew.trans hk0).trans ((Ab _).alloc _)).trans hk1)) HB0.out.2.2);have hcc12:=Ag (((((hx0.t hz1).t hz3).t hz5).t hz7).trans ((((Ab _).drew.trans hk0).trans ((Ab _).alloc _)).trans hk1)) hc
     go_wp2_with fail
     refine HK.out _ _ hk1 ?_;clear HK K;refine blkStep (fun K HK=>?_);simp only [PK]
     go_wp2_with fail
     refine HK.out _ _ ?_;clear HK K;have hbs:=Aa hk1 HBA.out;have hcs:=blk10 hbs;have hfs0:=fr10 hbs;have HBS:=Ac hbs;clear hbs;refine badStep (by kernel_rfl) (fun K HK=>?_);simp only [PK]
     go_wp2_with fail
     refine HK.out _ _ ?_;clear HK K;refine blkStep (fun K HK=>?_);simp only [PK]
     go_wp2_with fail
     refine HK.out _ _ ?_;clear HK K;refine Ap (by kernel_rfl) ?_
     go_wp2_with fail
     go_meet
     obtain⟨wq,hwq,hbq,hcq,hsq⟩:=pk_set HBS.out (.int .i64 (chkP t now x).kind) (.int .i64 (chkP t now x).src) (.int .i64 (chkP t now x).dst) ((.slice o0 (chkP t now x).path.parts.length c0)) (.int .i64 (chkP t now x).pi) (.int .i64 (chkP t now x).hi) (.int .i64 (chkP t now x).beta) (.int .i64 (chkP t now x).rid) (.int .i64 (chkP t now x).seq) ((.slice o1 (chkP t now x).pay.length c1));rw [← hwq];exact⟨_,rfl,rfl,⟨o0,_,c0,o1,_,c1,_,hbq,fun h=>An (Ba (ou h) (Ab _)) hcq (fun b (hb:rng _ _ b) (e:b=_)=>absurd hb.1 (by rw [e];exact Nat.not_le.2 (Ak (blk_lt HBA.out) (Ab _).size))),fun b hb=>⟨Ad (((Ab _).drew.trans hk0).trans ((Ab _).alloc _)).size hb.1,by rw [hsq];exact Ak hb.2 (Ab _).size,(fun b (hb:rng _ _ b) (e:b=_)=>absurd hb.1 (by rw [e];exact Nat.not_le.2 (Ak (blk_lt HBA.out) (Ab _).size))) b hb⟩⟩,((Ab _).drew.trans hk0).size,((((Ab _).drew.trans hk0).trans ((Ab _).alloc _)).trans hk1).chg1 hcq ((Ab _).drew.trans hk0).size⟩
    have hba:=blk_new w7 (.cells #[.int .i64 0,.int .i64 0,.int .i64 0,.slice none 0 0,.int .i64 0,.int .i64 0,.int .i64 0,.int .i64 0,.int .i64 0,.slice none 0 0] 35);have HBA:=Ac hba;clear hba;refine oneStep (fun K HK=>?_);simp only [PK]
    go_wp2_with fail
    refine HK.out _ _ ((Ab _).alloc _) ?_;clear HK K;refine oneStep (fun K HK=>?_);simp only [PK]
    go_wp2_with fail
    refine(i_copyPacket x _ _ _ (r0.ext (((((hx0.t hz1).t hz3).t hz5).t hz7).trans ((Ab _).drew.t ((Ab _).alloc _)))) (r1.ext (((((hx0.t hz1).t hz3).t hz5).t hz7).trans ((Ab _).drew.t ((Ab _).alloc _)))) hl).mono ?_;rintro e wk0 ⟨a0,a1,rfl,oa,hk0⟩;obtain⟨oa1,ca1,rfl,_⟩:=(As oa).shape;obtain⟨oa2,ca2,rfl,_⟩:=(At oa).shape;have hcc13:=blk2 (Aa ((((hz1.t hz3).t hz5).t hz7).trans (((Ab _).drew.t ((Ab _).alloc _)).trans hk0)) HB0.out.1);have hcc14:=blk10 (Aa ((((hz1.t hz3).t hz5).t hz7).trans (((Ab _).drew.t ((Ab _).alloc _)).trans hk0)) HB0.out.2.1);have hcc15:=blk12 (Aa ((((hz1.t hz3).t hz5).t hz7).trans (((Ab _).drew.t ((Ab _).alloc _)).trans hk0)) HB0.out.2.2);have hcc16:=Ag (((((hx0.t hz1).t hz3).t hz5).t hz7).trans (((Ab _).drew.t ((Ab _).alloc _)).trans hk0)) hc
    go_wp2_with fail
    refine HK.out _ _ hk0 ?_;clear HK K;refine oneStep (fun K HK=>?_);simp only [PK]
    go_wp2_with fail
    refine(i_checkHop t _ _ now x _ _ _ (ha.ext (((((hx0.t hz1).t hz3).t hz5).t hz7).trans (((Ab _).drew.t ((Ab _).alloc _)).trans hk0))) (hk.ext (((((hx0.t hz1).t hz3).t hz5).t hz7).trans (((Ab _).drew.t ((Ab _).alloc _)).trans hk0))) (As (Ba oa (Ab _))) (At (Ba oa (Ab _))) hl).mono ?_;rintro e wk1 ⟨u0,u1,rfl,ru0,ru1,ou,hk1⟩;obtain⟨o0,c0,rfl,_⟩:=ru0.shape;obtain⟨o1,c1,rfl,_⟩:=ru1.shape;have hcc17:=blk2 (Aa ((((hz1.t hz3).t hz5).t hz7).trans ((((Ab _).drew.t ((Ab _).alloc _)).trans hk0).trans hk1)) HB0.out.1);have hcc18:=blk10 (Aa ((((hz1.t hz3).t hz5).t hz7).trans ((((Ab _).drew.t ((Ab _).alloc _)).trans hk0).trans hk1)) HB0.out.2.1);have hcc19:=blk12 (Aa ((((hz1.t hz3).t hz5).t hz7).trans ((((Ab _).drew.t ((Ab _).alloc _)).trans hk0).trans hk1)) HB0.out.2.2);have hcc20:=Ag (((((hx0.t hz1).t hz3).t hz5).t hz7).trans ((((Ab _).drew.t ((Ab _).alloc _)).trans hk0).trans hk1)) hc
    go_wp2_with fail
    refine HK.out _ _ hk1 ?_;clear HK K;refine blkStep (fun K HK=>?_);simp only [PK]
    go_wp2_with fail
    refine HK.out _ _ ?_;clear HK K;have hbs:=Aa (hk0.trans hk1) HBA.out;have hcs:=blk10 hbs;have hfs0:=fr10 hbs;have HBS:=Ac hbs;clear hbs;refine badStep (by kernel_rfl) (fun K HK=>?_);simp only [PK]
    go_wp2_with fail
    refine HK.out _ _ ?_;clear HK K;refine blkStep (fun K HK=>?_);simp only [PK]
    go_wp2_with fail
    refine HK.out _ _ ?_;clear HK K;refine Ap (by kernel_rfl) ?_
    go_wp2_with fail
    go_meet
    obtain⟨wq,hwq,hbq,hcq,hsq⟩:=pk_set HBS.out (.int .i64 (chkP t now x).kind) (.int .i64 (chkP t now x).src) (.int .i64 (chkP t now x).dst) ((.slice o0 (chkP t now x).path.parts.length c0)) (.int .i64 (chkP t now x).pi) (.int .i64 (chkP t now x).hi) (.int .i64 (chkP t now x).beta) (.int .i64 (chkP t now x).rid) (.int .i64 (chkP t now x).seq) ((.slice o1 (chkP t now x).pay.length c1));rw [← hwq];exact⟨_,rfl,rfl,⟨o0,_,c0,o1,_,c1,_,hbq,fun h=>An (Ba (ou h) (Ab _)) hcq (fun b (hb:rng _ _ b) (e:b=_)=>absurd hb.1 (by rw [e];exact Nat.not_le.2 (Ak (blk_lt HBA.out) hk0.size))),fun b hb=>⟨Ad (((Ab _).drew.t ((Ab _).alloc _)).trans hk0).size hb.1,by rw [hsq];exact Ak hb.2 (Ab _).size,(fun b (hb:rng _ _ b) (e:b=_)=>absurd hb.1 (by rw [e];exact Nat.not_le.2 (Ak (blk_lt HBA.out) hk0.size))) b hb⟩⟩,(Ab _).drew.size,((((Ab _).drew.t ((Ab _).alloc _)).trans hk0).trans hk1).chg1 hcq (Ab _).drew.size⟩
   case rest=>
    obtain⟨g,rfl,rfl,hst,hge,hxc⟩:=hcut;have HST0:=Ac hst;clear hst
    try clear cf32
    try clear cf33
    try clear cf34
    try clear cf35
    go_wp2_with fail
    go_loopg [17] x.path.parts.length (fun gk c wr=>∃ y:Pkt,c=.int .i64 (chkCode t now y)∧CurSt w7.heap.size g (chkP t now y) (chkCode t now y) wr∧Hid (chkAll t now gk y=chkAll t now x.path.parts.length x)∧Hid (y.path=x.path)∧Hid (y.size=x.size)∧x.path.parts.length≤gk+y.pi.toNat∧Ext w7 wr)
    case atStart=>exact⟨x,rfl,HST0.out,Ac rfl,Ac rfl,Ac rfl,Nat.le_add_right _ _,hxc⟩
    case round=>
     clear HST0 hxc;obtain⟨y,rfl,hst,HRL,HP,HS,hN,hx⟩:=hrel;obtain⟨o0,n0,c0,o1,n1,c1,S0,hg,hown,hS⟩:=hst;have HGB:=Ac hg;clear hg
     by_cases k0:chkCode t now y=0
     ·
      obtain⟨hhz,hcz⟩:=code_has k0;rw [chkP_0 k0] at HGB hown;have HZP:=Ac ((verCur_path t y).trans HP.out);have HZS:=Ac ((verCur_size t y).trans HS.out);have HZI:=Ac (verCur_pi t y);have HGO:=Ac (fun(f:Nat)=>chk_go (f:=f) k0);have HSTP:=Ac (fun(h:(lastOf (verCur t y) && !(atLast (verCur t y)))=false)=>chk_stop (f:=gk) (t:=t) (now:=now) (x:=y) (by rw [k0];simpa using h));rw [k0] at hown;generalize hz:verCur t y=z at *;have HZ:=Ac hz;clear hz;have oz:=hown rfl;have OZ:=Ac oz;obtain⟨_,_,he0,_⟩:=(As oz).shape;obtain⟨_,_,he1,_⟩:=(At oz).shape
      cases he0
      cases he1
      have rz0:=As oz;have rz1:=At oz;clear oz hown;rw [k0];have K0:=Ac k0;clear k0;obtain⟨⟨z0,z1,z2⟩,y0,y1,y2⟩:=Cc hhz;have hlz:z.size≤1048576:=by rw [HZS.out];exact hl
      have HCH:Hid (chkAll t now x.path.parts.length x=(0,z)↔chkAll t now gk y=(0,z)):=Ac (by rw [HRL.out]);have cf40:=blk2 (Aa ((((hz1.t hz3).t hz5).t hz7).t hx) HB0.out.1);have cf41:=blk10 (Aa ((((hz1.t hz3).t hz5).t hz7).t hx) HB0.out.2.1);have cf42:=blk12 (Aa ((((hz1.t hz3).t hz5).t hz7).t hx) HB0.out.2.2);have cf43:=blk10 HGB.out;have cf44:=Ag (((((hx0.t hz1).t hz3).t hz5).t hz7).t hx) hc
      go_wp2_with fail
      refine(i_lastOfPart z _ _ _ (rz0.ext (Ab _)) z0 z2).mono ?_;rintro e w9 ⟨rfl,hz9⟩
      cases bl:lastOf z
      ·
       have bal:atLast z=false:=by unfold atLast;rw [bl];simp
       have HC:Hid (chkAll t now x.path.parts.length x=(0,z)):=Ac (HCH.out.2 ((HSTP.out (by rw [bl];rfl)).trans (by rw [K0.out])));have HF:=Ac (fw_out (r:=r) (dead:=dead) (inn:=inn) HB.out HW.out HC.out bal)
       try clear cf40
       try clear cf41
       try clear cf42
       try clear cf43
       try clear cf44
       have cf45:=blk2 (Aa (((((hz1.t hz3).t hz5).t hz7).t hx).t hz9) HB0.out.1);have cf46:=blk10 (Aa (((((hz1.t hz3).t hz5).t hz7).t hx).t hz9) HB0.out.2.1);have cf47:=blk12 (Aa (((((hz1.t hz3).t hz5).t hz7).t hx).t hz9) HB0.out.2.2);have cf48:=blk10 (Aa hz9 HGB.out);have cf49:=Ag ((((((hx0.t hz1).t hz3).t hz5).t hz7).t hx).t hz9) hc
       go_wp2_with fail
       refine(i_AtLastHop z _ _ _ (rz0.ext hz9)).mono ?_;rintro e w10 ⟨rfl,hz10⟩;rw [bal];have hcz2:=curPart_at z2;obtain⟨bz,offz,ohz,chz,rfl,hcc,hrc⟩:=Bx rz0 z.pi.toNat z2;rw [← hcz2] at hcc hrc;clear hcz2
       try clear cf45
       try clear cf46
       try clear cf47
       try clear cf48
       try clear cf49
       have cf50:=blk2 (Aa ((((((hz1.t hz3).t hz5).t hz7).t hx).t hz9).t hz10) HB0.out.1);have cf51:=blk10 (Aa ((((((hz1.t hz3).t hz5).t hz7).t hx).t hz9).t hz10) HB0.out.2.1);have cf52:=blk12 (Aa ((((((hz1.t hz3).t hz5).t hz7).t hx).t hz9).t hz10) HB0.out.2.2);have cf53:=blk10 (Aa (hz9.t hz10) HGB.out);have cf54:=Ag (((((((hx0.t hz1).t hz3).t hz5).t hz7).t hx).t hz9).t hz10) hc;have cf55:=Ag (hz9.t hz10) hcc
       go_wp2_with fail
       refine Al (by kernel_rfl) (by kernel_rfl) ?_;have q0:=Br cf50;have q2:=Bp cf51;have q12:=ExtW.c12 cf52;have q24:=Bp cf53;have q34:=Bm cf54;have q38:=Bm cf55
       repeat (first | go_big_quiet_step (((first | (go_at_call 73;exact Ai (i_PartEgress (curPart z) _ z.hi _ ((hrc.ext (hz9.t hz10)).ext (ExtW.h _))))))) | quiet_step (((first | (go_at_call 73;exact Ai (i_PartEgress (curPart z) _ z.hi _ ((hrc.ext (hz9.t hz10)).ext (ExtW.h _))))))))
       refine wpQuiet_nil ?_;intro w11 hw11;have hz11:=Bc hw11;clear hw11 q0 q2 q12 q24 q34 q38;generalize heg:partEg (curPart z) z.hi=eg at *;have HEG:=Ac heg;clear heg
       try clear cf50
       try clear cf51
       try clear cf52
       try clear cf53
       try clear cf54
       try clear cf55
       have cf56:=blk2 (Aa (((((((hz1.t hz3).t hz5).t hz7).t hx).t hz9).t hz10).t hz11) HB0.out.1);have cf57:=blk10 (Aa (((((((hz1.t hz3).t hz5).t hz7).t hx).t hz9).t hz10).t hz11) HB0.out.2.1);have cf58:=blk12 (Aa (((((((hz1.t hz3).t hz5).t hz7).t hx).t hz9).t hz10).t hz11) HB0.out.2.2);have cf59:=blk10 (Aa ((hz9.t hz10).t hz11) HGB.out);have cf60:=Ag ((((((((hx0.t hz1).t hz3).t hz5).t hz7).t hx).t hz9).t hz10).t hz11) hc;have cf61:=Ag ((hz9.t hz10).t hz11) hcc
       go_wp2_with fail
       refine(i_StepAllowed t _ _ ⟨r,inn,eg⟩ _ (hk.ext ((((((((hx0.t hz1).t hz3).t hz5).t hz7).t hx).t hz9).t hz10).t hz11))).mono ?_;rintro e w12 ⟨rfl,hz12⟩
       cases bso:stepOk t ⟨r,inn,eg⟩
       ·
        have HE:=Ac (HF.out.trans (by rw [bso]))
        try clear cf56
        try clear cf57
        try clear cf58
        try clear cf59
        try clear cf60
        try clear cf61
        have cf62:=blk2 (Aa ((((((((hz1.t hz3).t hz5).t hz7).t hx).t hz9).t hz10).t hz11).t hz12) HB0.out.1);have cf63:=blk10 (Aa ((((((((hz1.t hz3).t hz5).t hz7).t hx).t hz9).t hz10).t hz11).t hz12) HB0.out.2.1);have cf64:=blk12 (Aa ((((((((hz1.t hz3).t hz5).t hz7).t hx).t hz9).t hz10).t hz11).t hz12) HB0.out.2.2);have cf65:=blk10 (Aa (((hz9.t hz10).t hz11).t hz12) HGB.out);have cf66:=Ag (((((((((hx0.t hz1).t hz3).t hz5).t hz7).t hx).t hz9).t hz10).t hz11).t hz12) hc;have cf67:=Ag (((hz9.t hz10).t hz11).t hz12) hcc
        go_wp2_with fail
        refine(i_decide1 (6) x _ _ (w.heap.size+1) _ (Aa ((((((((hz1.t hz3).t hz5).t hz7).t hx).t hz9).t hz10).t hz11).t hz12) HB0.out.2.1) (r0.ext (((((((((hx0.t hz1).t hz3).t hz5).t hz7).t hx).t hz9).t hz10).t hz11).t hz12)) (r1.ext (((((((((hx0.t hz1).t hz3).t hz5).t hz7).t hx).t hz9).t hz10).t hz11).t hz12)) hl).mono ?_;rintro e w13 ⟨u0,u1,rfl,oo,hz13⟩;obtain⟨oa,ca,rfl,_⟩:=(As oo).shape;obtain⟨ob,cb,rfl,_⟩:=(At oo).shape;have hs1:w.heap.size+1+1+1≤w12.heap.size:=by simpa using ((((((((hz1.t hz3).t hz5).t hz7).t hx).t hz9).t hz10).t hz11).t hz12).size
        have OX:=Ac oo;clear oo;have hR:=Aa (((((((((hz1.t hz3).t hz5).t hz7).t hx).t hz9).t hz10).t hz11).t hz12).t hz13) HB0.out.2.2;obtain⟨wc,hwc,hrc,hcc,hsc⟩:=vd_set hR (.int .i64 (6)) (.int .i64 0) (.int .i64 x.kind) (.int .i64 x.src) (.int .i64 x.dst) ((.slice oa x.path.parts.length ca)) (.int .i64 x.pi) (.int .i64 x.hi) (.int .i64 x.beta) (.int .i64 x.rid) (.int .i64 x.seq) ((.slice ob x.pay.length cb));have HOW:=Ac (An OX.out hcc (fun b hb e=>by have h1:=hb.1;have h2:=hb.2;have h3:=hs1;((try simp at h1) <;> omega)));have HXX:=Ac (((((((((((hx0.t hz1).t hz3).t hz5).t hz7).t hx).t hz9).t hz10).t hz11).t hz12).t hz13).chg1 hcc (by omega));have HWC:=Ac hwc;have HRC:=Ac hrc;have hsz2:w13.heap.size=wc.heap.size:=by rw [hsc]
        have gr0:=fr12 hR;clear hR hwc hrc hcc hsc
        try clear cf62
        try clear cf63
        try clear cf64
        try clear cf65
        try clear cf66
        try clear cf67
        have cf68:=blk2 (Aa (((((((((hz1.t hz3).t hz5).t hz7).t hx).t hz9).t hz10).t hz11).t hz12).t hz13) HB0.out.1);have cf69:=blk10 (Aa (((((((((hz1.t hz3).t hz5).t hz7).t hx).t hz9).t hz10).t hz11).t hz12).t hz13) HB0.out.2.1);have cf70:=blk12 (Aa (((((((((hz1.t hz3).t hz5).t hz7).t hx).t hz9).t hz10).t hz11).t hz12).t hz13) HB0.out.2.2);have cf71:=blk10 (Aa ((((hz9.t hz10).t hz11).t hz12).t hz13) HGB.out);have cf72:=Ag ((((((((((hx0.t hz1).t hz3).t hz5).t hz7).t hx).t hz9).t hz10).t hz11).t hz12).t hz13) hc;have cf73:=Ag ((((hz9.t hz10).t hz11).t hz12).t hz13) hcc
        go_wp2_with fail
        rw [← HWC.out];clear gr0 cf68 cf69 cf70 cf71 cf72 cf73;have cc:=blk12 HRC.out;refine bodyPost_ret (by simp [results,Tryz.results92,go_sem,cc] <;> rfl) rfl ?_;rw [HE.out];exact⟨_,_,_,rfl,Az HOW.out (fun b hb=>⟨by have h1:=hb.1;have h3:=hs1;omega,by have h2:=hb.2;omega⟩),HXX.out⟩
       try clear cf56
       try clear cf57
       try clear cf58
       try clear cf59
       try clear cf60
       try clear cf61
       have cf74:=blk2 (Aa ((((((((hz1.t hz3).t hz5).t hz7).t hx).t hz9).t hz10).t hz11).t hz12) HB0.out.1);have cf75:=blk10 (Aa ((((((((hz1.t hz3).t hz5).t hz7).t hx).t hz9).t hz10).t hz11).t hz12) HB0.out.2.1);have cf76:=blk12 (Aa ((((((((hz1.t hz3).t hz5).t hz7).t hx).t hz9).t hz10).t hz11).t hz12) HB0.out.2.2);have cf77:=blk10 (Aa (((hz9.t hz10).t hz11).t hz12) HGB.out);have cf78:=Ag (((((((((hx0.t hz1).t hz3).t hz5).t hz7).t hx).t hz9).t hz10).t hz11).t hz12) hc;have cf79:=Ag (((hz9.t hz10).t hz11).t hz12) hcc
       go_wp2_with fail
       refine(i_Contains _ _ _).mono ?_;rintro e _ ⟨rfl,rfl⟩
       cases bin:inSet dead eg
       ·
        have HE:=Ac (HF.out.trans (by rw [bso,bin]))
        go_wp2_with fail
        refine(i_AdvanceHop z _ _ _ (rz0.ext (((hz9.t hz10).t hz11).t hz12)) (rz1.ext (((hz9.t hz10).t hz11).t hz12)) hlz).mono ?_;rintro e w15 ⟨u0,u1,rfl,oa,hz15⟩;obtain⟨ox,cx,rfl,_⟩:=(As oa).shape;obtain⟨oxx,cxx,rfl,_⟩:=(At oa).shape;have hs1:w.heap.size+1+1+1≤w12.heap.size:=by simpa using ((((((((hz1.t hz3).t hz5).t hz7).t hx).t hz9).t hz10).t hz11).t hz12).size
        have OX:=Ac oa;clear oa;have hR:=Aa (((((((((hz1.t hz3).t hz5).t hz7).t hx).t hz9).t hz10).t hz11).t hz12).t hz15) HB0.out.2.2;obtain⟨wc,hwc,hrc,hcc,hsc⟩:=vd_set hR (.int .i64 0) (.int .i64 eg) (.int .i64 (advance z).kind) (.int .i64 (advance z).src) (.int .i64 (advance z).dst) ((.slice ox (advance z).path.parts.length cx)) (.int .i64 (advance z).pi) (.int .i64 (advance z).hi) (.int .i64 (advance z).beta) (.int .i64 (advance z).rid) (.int .i64 (advance z).seq) ((.slice oxx (advance z).pay.length cxx));have HOW:=Ac (An OX.out hcc (fun b hb e=>by have h1:=hb.1;have h2:=hb.2;have h3:=hs1;((try simp at h1) <;> omega)));have HXX:=Ac (((((((((((hx0.t hz1).t hz3).t hz5).t hz7).t hx).t hz9).t hz10).t hz11).t hz12).t hz15).chg1 hcc (by omega));have HWC:=Ac hwc;have HRC:=Ac hrc;have hsz2:w15.heap.size=wc.heap.size:=by rw [hsc]
        have gr0:=fr12 hR;clear hR hwc hrc hcc hsc
        try clear cf74
        try clear cf75
        try clear cf76
        try clear cf77
        try clear cf78
        try clear cf79
        have cf80:=blk2 (Aa (((((((((hz1.t hz3).t hz5).t hz7).t hx).t hz9).t hz10).t hz11).t hz12).t hz15) HB0.out.1);have cf81:=blk10 (Aa (((((((((hz1.t hz3).t hz5).t hz7).t hx).t hz9).t hz10).t hz11).t hz12).t hz15) HB0.out.2.1);have cf82:=blk12 (Aa (((((((((hz1.t hz3).t hz5).t hz7).t hx).t hz9).t hz10).t hz11).t hz12).t hz15) HB0.out.2.2);have cf83:=blk10 (Aa ((((hz9.t hz10).t hz11).t hz12).t hz15) HGB.out);have cf84:=Ag ((((((((((hx0.t hz1).t hz3).t hz5).t hz7).t hx).t hz9).t hz10).t hz11).t hz12).t hz15) hc;have cf85:=Ag ((((hz9.t hz10).t hz11).t hz12).t hz15) hcc
        go_wp2_with fail
        rw [← HWC.out];clear gr0 cf80 cf81 cf82 cf83 cf84 cf85;have cc:=blk12 HRC.out;refine bodyPost_ret (by simp [results,Tryz.results92,go_sem,cc] <;> rfl) rfl ?_;rw [HE.out];exact⟨_,_,_,rfl,Az HOW.out (fun b hb=>⟨by have h1:=hb.1;have h3:=hs1;omega,by have h2:=hb.2;omega⟩),HXX.out⟩
       have HE:=Ac (HF.out.trans (by rw [bso,bin]))
       go_wp2_with fail
       refine(i_decide1 (7) x _ _ (w.heap.size+1) _ (Aa ((((((((hz1.t hz3).t hz5).t hz7).t hx).t hz9).t hz10).t hz11).t hz12) HB0.out.2.1) (r0.ext (((((((((hx0.t hz1).t hz3).t hz5).t hz7).t hx).t hz9).t hz10).t hz11).t hz12)) (r1.ext (((((((((hx0.t hz1).t hz3).t hz5).t hz7).t hx).t hz9).t hz10).t hz11).t hz12)) hl).mono ?_;rintro e w16 ⟨u0,u1,rfl,oo,hz16⟩;obtain⟨oa,ca,rfl,_⟩:=(As oo).shape;obtain⟨ob,cb,rfl,_⟩:=(At oo).shape;have hs1:w.heap.size+1+1+1≤w12.heap.size:=by simpa using ((((((((hz1.t hz3).t hz5).t hz7).t hx).t hz9).t hz10).t hz11).t hz12).size
       have OX:=Ac oo;clear oo;have hR:=Aa (((((((((hz1.t hz3).t hz5).t hz7).t hx).t hz9).t hz10).t hz11).t hz12).t hz16) HB0.out.2.2;obtain⟨wc,hwc,hrc,hcc,hsc⟩:=vd_set hR (.int .i64 (7)) (.int .i64 0) (.int .i64 x.kind) (.int .i64 x.src) (.int .i64 x.dst) ((.slice oa x.path.parts.length ca)) (.int .i64 x.pi) (.int .i64 x.hi) (.int .i64 x.beta) (.int .i64 x.rid) (.int .i64 x.seq) ((.slice ob x.pay.length cb));have HOW:=Ac (An OX.out hcc (fun b hb e=>by have h1:=hb.1;have h2:=hb.2;have h3:=hs1;((try simp at h1) <;> omega)));have HXX:=Ac (((((((((((hx0.t hz1).t hz3).t hz5).t hz7).t hx).t hz9).t hz10).t hz11).t hz12).t hz16).chg1 hcc (by omega));have HWC:=Ac hwc;have HRC:=Ac hrc;have hsz2:w16.heap.size=wc.heap.size:=by rw [hsc]
       have gr0:=fr12 hR;clear hR hwc hrc hcc hsc
       try clear cf74
       try clear cf75
       try clear cf76
       try clear cf77
       try clear cf78
       try clear cf79
       have cf86:=blk2 (Aa (((((((((hz1.t hz3).t hz5).t hz7).t hx).t hz9).t hz10).t hz11).t hz12).t hz16) HB0.out.1);have cf87:=blk10 (Aa (((((((((hz1.t hz3).t hz5).t hz7).t hx).t hz9).t hz10).t hz11).t hz12).t hz16) HB0.out.2.1);have cf88:=blk12 (Aa (((((((((hz1.t hz3).t hz5).t hz7).t hx).t hz9).t hz10).t hz11).t hz12).t hz16) HB0.out.2.2);have cf89:=blk10 (Aa ((((hz9.t hz10).t hz11).t hz12).t hz16) HGB.out);have cf90:=Ag ((((((((((hx0.t hz1).t hz3).t hz5).t hz7).t hx).t hz9).t hz10).t hz11).t hz12).t hz16) hc;have cf91:=Ag ((((hz9.t hz10).t hz11).t hz12).t hz16) hcc
       go_wp2_with fail
       rw [← HWC.out];clear gr0 cf86 cf87 cf88 cf89 cf90 cf91;have cc:=blk12 HRC.out;refine bodyPost_ret (by simp [results,Tryz.results92,go_sem,cc] <;> rfl) rfl ?_;rw [HE.out];exact⟨_,_,_,rfl,Az HOW.out (fun b hb=>⟨by have h1:=hb.1;have h3:=hs1;omega,by have h2:=hb.2;omega⟩),HXX.out⟩
      try clear cf40
      try clear cf41
      try clear cf42
      try clear cf43
      try clear cf44
      have cf92:=blk2 (Aa (((((hz1.t hz3).t hz5).t hz7).t hx).t hz9) HB0.out.1);have cf93:=blk10 (Aa (((((hz1.t hz3).t hz5).t hz7).t hx).t hz9) HB0.out.2.1);have cf94:=blk12 (Aa (((((hz1.t hz3).t hz5).t hz7).t hx).t hz9) HB0.out.2.2);have cf95:=blk10 (Aa hz9 HGB.out);have cf96:=Ag ((((((hx0.t hz1).t hz3).t hz5).t hz7).t hx).t hz9) hc
      go_wp2_with fail
      refine(i_AtLastHop z _ _ _ (rz0.ext hz9)).mono ?_;rintro e w17 ⟨rfl,hz17⟩
      cases bal:atLast z
      ·
       obtain⟨fg,hfg⟩:∃ fg,gk=fg+1:=⟨gk - 1,by rw [HZP.out] at z2;rw [HZI.out] at z2;omega⟩
       have HGS:=Ac (HGO.out fg bl bal);have hap:=adv_pi (show ¬ curAs z<0 by omega) bal bl;have HAP:=Ac ((adv_path z).trans HZP.out);have HAS:=Ac ((adv_size z).trans HZS.out);have hla:(advance z).size≤1048576:=by rw [HAS.out];exact hl
       have hN2:x.path.parts.length≤fg+(advance z).pi.toNat:=by rw [hap,HZI.out];omega
       have HN2:=Ac hN2;clear hN2 hap;have HFG:=Ac hfg;clear hfg
       try clear cf92
       try clear cf93
       try clear cf94
       try clear cf95
       try clear cf96
       have cf97:=blk2 (Aa ((((((hz1.t hz3).t hz5).t hz7).t hx).t hz9).t hz17) HB0.out.1);have cf98:=blk10 (Aa ((((((hz1.t hz3).t hz5).t hz7).t hx).t hz9).t hz17) HB0.out.2.1);have cf99:=blk12 (Aa ((((((hz1.t hz3).t hz5).t hz7).t hx).t hz9).t hz17) HB0.out.2.2);have cf100:=blk10 (Aa (hz9.t hz17) HGB.out);have cf101:=Ag (((((((hx0.t hz1).t hz3).t hz5).t hz7).t hx).t hz9).t hz17) hc
       go_wp2_with fail
       refine Ax (.blk [0,1,2] (.one 3 (.one 4 (.blk [5,6,7] (.one 8 (.blk [9] .done)))))) [8] (by kernel_rfl) (by kernel_rfl) ?_
       try clear cf97
       try clear cf98
       try clear cf99
       try clear cf100
       try clear cf101
       have cf102:=blk2 (Aa (((((((hz1.t hz3).t hz5).t hz7).t hx).t hz9).t hz17).t ((Ab _).drew)) HB0.out.1);have cf103:=blk10 (Aa (((((((hz1.t hz3).t hz5).t hz7).t hx).t hz9).t hz17).t ((Ab _).drew)) HB0.out.2.1);have cf104:=blk12 (Aa (((((((hz1.t hz3).t hz5).t hz7).t hx).t hz9).t hz17).t ((Ab _).drew)) HB0.out.2.2);have cf105:=blk10 (Aa ((hz9.t hz17).t ((Ab _).drew)) HGB.out);have cf106:=Ag ((((((((hx0.t hz1).t hz3).t hz5).t hz7).t hx).t hz9).t hz17).t ((Ab _).drew)) hc;refine blkStep (fun K HK=>?_);simp only [PK]
       go_wp2_with fail
       refine HK.out _ _ ?_;clear HK K;refine oneStep (fun K HK=>?_);simp only [PK]
       go_wp2_with fail
       refine(i_AdvanceHop z _ _ _ (rz0.ext ((hz9.t hz17).t ((Ab _).drew))) (rz1.ext ((hz9.t hz17).t ((Ab _).drew))) hlz).mono ?_;rintro e w18 ⟨b0,b1,rfl,oa,hz18⟩;obtain⟨ob0,cb0,rfl,_⟩:=(As oa).shape;obtain⟨ob1,cb1,rfl,_⟩:=(At oa).shape
       try clear cf102
       try clear cf103
       try clear cf104
       try clear cf105
       try clear cf106
       have cf107:=blk2 (Aa ((((((((hz1.t hz3).t hz5).t hz7).t hx).t hz9).t hz17).t ((Ab _).drew)).t hz18) HB0.out.1);have cf108:=blk10 (Aa ((((((((hz1.t hz3).t hz5).t hz7).t hx).t hz9).t hz17).t ((Ab _).drew)).t hz18) HB0.out.2.1);have cf109:=blk12 (Aa ((((((((hz1.t hz3).t hz5).t hz7).t hx).t hz9).t hz17).t ((Ab _).drew)).t hz18) HB0.out.2.2);have cf110:=blk10 (Aa (((hz9.t hz17).t ((Ab _).drew)).t hz18) HGB.out);have cf111:=Ag (((((((((hx0.t hz1).t hz3).t hz5).t hz7).t hx).t hz9).t hz17).t ((Ab _).drew)).t hz18) hc
       go_wp2_with fail
       refine HK.out _ _ hz18 ?_;clear HK K;refine oneStep (fun K HK=>?_);simp only [PK]
       go_wp2_with fail
       refine(i_checkHop t _ _ now (advance z) _ _ _ (ha.ext (((((((((hx0.t hz1).t hz3).t hz5).t hz7).t hx).t hz9).t hz17).t ((Ab _).drew)).t hz18)) (hk.ext (((((((((hx0.t hz1).t hz3).t hz5).t hz7).t hx).t hz9).t hz17).t ((Ab _).drew)).t hz18)) (As oa) (At oa) hla).mono ?_;rintro e w19 ⟨u0,u1,rfl,ru0,ru1,ou,hz19⟩;obtain⟨ou0,cu0,rfl,_⟩:=ru0.shape;obtain⟨ou1,cu1,rfl,_⟩:=ru1.shape
       try clear cf107
       try clear cf108
       try clear cf109
       try clear cf110
       try clear cf111
       have cf112:=blk2 (Aa (((((((((hz1.t hz3).t hz5).t hz7).t hx).t hz9).t hz17).t ((Ab _).drew)).t hz18).t hz19) HB0.out.1);have cf113:=blk10 (Aa (((((((((hz1.t hz3).t hz5).t hz7).t hx).t hz9).t hz17).t ((Ab _).drew)).t hz18).t hz19) HB0.out.2.1);have cf114:=blk12 (Aa (((((((((hz1.t hz3).t hz5).t hz7).t hx).t hz9).t hz17).t ((Ab _).drew)).t hz18).t hz19) HB0.out.2.2);have cf115:=blk10 (Aa ((((hz9.t hz17).t ((Ab _).drew)).t hz18).t hz19) HGB.out);have cf116:=Ag ((((((((((hx0.t hz1).t hz3).t hz5).t hz7).t hx).t hz9).t hz17).t ((Ab _).drew)).t hz18).t hz19) hc
       go_wp2_with fail
       refine HK.out _ _ hz19 ?_;clear HK K;refine blkStep (fun K HK=>?_);simp only [PK]
       go_wp2_with fail
       refine HK.out _ _ ?_;clear HK K;have hG:=Aa ((((hz9.t hz17).t ((Ab _).drew)).t hz18).t hz19) HGB.out;have hcg:=blk10 hG;have hfg0:=fr10 hG;obtain⟨wq,hwq,hbq,hcq,hsq⟩:=pk_set hG (.int .i64 (chkP t now (advance z)).kind) (.int .i64 (chkP t now (advance z)).src) (.int .i64 (chkP t now (advance z)).dst) ((.slice ou0 (chkP t now (advance z)).path.parts.length cu0)) (.int .i64 (chkP t now (advance z)).pi) (.int .i64 (chkP t now (advance z)).hi) (.int .i64 (chkP t now (advance z)).beta) (.int .i64 (chkP t now (advance z)).rid) (.int .i64 (chkP t now (advance z)).seq) ((.slice ou1 (chkP t now (advance z)).pay.length cu1));have HWQ:=Ac hwq;clear hwq hG;refine badStep (by kernel_rfl) (fun K HK=>?_);simp only [PK]
       go_wp2_with fail
       refine HK.out _ _ ?_;clear HK K;refine blkStep (fun K HK=>?_);simp only [PK]
       go_wp2_with fail
       refine HK.out _ _ ?_;clear HK K;refine Ap (by kernel_rfl) ?_;rw [← HWQ.out]
       go_wp2_with fail
       go_roundg fg
       case measure=>rw [HFG.out];exact Nat.lt_succ_self _
       case rel=>exact⟨advance z,rfl,⟨ou0,_,cu0,ou1,_,cu1,_,hbq,fun h=>An (ou h) hcq (fun b (hb:rng _ _ b) (e:b=_)=>absurd hb.1 (by rw [e];exact Nat.not_le.2 (blk_lt (Aa (((hz9.t hz17).t ((Ab _).drew)).t hz18) HGB.out)))),fun b hb=>⟨Ad ((((hx.t hz9).t hz17).t ((Ab _).drew)).t hz18).size hb.1,by rw [hsq];exact hb.2,(fun b (hb:rng _ _ b) (e:b=_)=>absurd hb.1 (by rw [e];exact Nat.not_le.2 (blk_lt (Aa (((hz9.t hz17).t ((Ab _).drew)).t hz18) HGB.out)))) b hb⟩⟩,Ac (by rw [← HGS.out,← HFG.out];exact HRL.out),HAP,HAS,HN2.out,(((((hx.t hz9).t hz17).t ((Ab _).drew)).t hz18).t hz19).chg1 hcq hge⟩
      have HC:Hid (chkAll t now x.path.parts.length x=(0,z)):=Ac (HCH.out.2 ((HSTP.out (by rw [bal];simp)).trans (by rw [K0.out])));have HF:=Ac (fw_del (r:=r) (dead:=dead) (inn:=inn) HB.out HW.out HC.out bal)
      try clear cf92
      try clear cf93
      try clear cf94
      try clear cf95
      try clear cf96
      have cf117:=blk2 (Aa ((((((hz1.t hz3).t hz5).t hz7).t hx).t hz9).t hz17) HB0.out.1);have cf118:=blk10 (Aa ((((((hz1.t hz3).t hz5).t hz7).t hx).t hz9).t hz17) HB0.out.2.1);have cf119:=blk12 (Aa ((((((hz1.t hz3).t hz5).t hz7).t hx).t hz9).t hz17) HB0.out.2.2);have cf120:=blk10 (Aa (hz9.t hz17) HGB.out);have cf121:=Ag (((((((hx0.t hz1).t hz3).t hz5).t hz7).t hx).t hz9).t hz17) hc
      go_wp2_with fail
      refine(i_AtLastHop z _ _ _ (rz0.ext (hz9.t hz17))).mono ?_;rintro e w20 ⟨rfl,hz20⟩;rw [bal]
      cases bd:(z.dst == r)
      ·
       have bd':(z.dst != r)=true:=by simp only [bne,bd];rfl
       have HE:=Ac (HF.out.trans (by rw [bd]))
       try clear cf117
       try clear cf118
       try clear cf119
       try clear cf120
       try clear cf121
       have cf122:=blk2 (Aa (((((((hz1.t hz3).t hz5).t hz7).t hx).t hz9).t hz17).t hz20) HB0.out.1);have cf123:=blk10 (Aa (((((((hz1.t hz3).t hz5).t hz7).t hx).t hz9).t hz17).t hz20) HB0.out.2.1);have cf124:=blk12 (Aa (((((((hz1.t hz3).t hz5).t hz7).t hx).t hz9).t hz17).t hz20) HB0.out.2.2);have cf125:=blk10 (Aa ((hz9.t hz17).t hz20) HGB.out);have cf126:=Ag ((((((((hx0.t hz1).t hz3).t hz5).t hz7).t hx).t hz9).t hz17).t hz20) hc
       go_wp2_with fail
       refine(i_decide1 (2) x _ _ (w.heap.size+1) _ (Aa (((((((hz1.t hz3).t hz5).t hz7).t hx).t hz9).t hz17).t hz20) HB0.out.2.1) (r0.ext ((((((((hx0.t hz1).t hz3).t hz5).t hz7).t hx).t hz9).t hz17).t hz20)) (r1.ext ((((((((hx0.t hz1).t hz3).t hz5).t hz7).t hx).t hz9).t hz17).t hz20)) hl).mono ?_;rintro e w21 ⟨u0,u1,rfl,oo,hz21⟩;obtain⟨oa,ca,rfl,_⟩:=(As oo).shape;obtain⟨ob,cb,rfl,_⟩:=(At oo).shape;have hs1:w.heap.size+1+1+1≤w20.heap.size:=by simpa using (((((((hz1.t hz3).t hz5).t hz7).t hx).t hz9).t hz17).t hz20).size
       have OX:=Ac oo;clear oo;have hR:=Aa ((((((((hz1.t hz3).t hz5).t hz7).t hx).t hz9).t hz17).t hz20).t hz21) HB0.out.2.2;obtain⟨wc,hwc,hrc,hcc,hsc⟩:=vd_set hR (.int .i64 (2)) (.int .i64 0) (.int .i64 x.kind) (.int .i64 x.src) (.int .i64 x.dst) ((.slice oa x.path.parts.length ca)) (.int .i64 x.pi) (.int .i64 x.hi) (.int .i64 x.beta) (.int .i64 x.rid) (.int .i64 x.seq) ((.slice ob x.pay.length cb));have HOW:=Ac (An OX.out hcc (fun b hb e=>by have h1:=hb.1;have h2:=hb.2;have h3:=hs1;((try simp at h1) <;> omega)));have HXX:=Ac ((((((((((hx0.t hz1).t hz3).t hz5).t hz7).t hx).t hz9).t hz17).t hz20).t hz21).chg1 hcc (by omega));have HWC:=Ac hwc;have HRC:=Ac hrc;have hsz2:w21.heap.size=wc.heap.size:=by rw [hsc]
       have gr0:=fr12 hR;clear hR hwc hrc hcc hsc
       try clear cf122
       try clear cf123
       try clear cf124
       try clear cf125
       try clear cf126
       have cf127:=blk2 (Aa ((((((((hz1.t hz3).t hz5).t hz7).t hx).t hz9).t hz17).t hz20).t hz21) HB0.out.1);have cf128:=blk10 (Aa ((((((((hz1.t hz3).t hz5).t hz7).t hx).t hz9).t hz17).t hz20).t hz21) HB0.out.2.1);have cf129:=blk12 (Aa ((((((((hz1.t hz3).t hz5).t hz7).t hx).t hz9).t hz17).t hz20).t hz21) HB0.out.2.2);have cf130:=blk10 (Aa (((hz9.t hz17).t hz20).t hz21) HGB.out);have cf131:=Ag (((((((((hx0.t hz1).t hz3).t hz5).t hz7).t hx).t hz9).t hz17).t hz20).t hz21) hc
       go_wp2_with fail
       rw [← HWC.out];clear gr0 cf127 cf128 cf129 cf130 cf131;have cc:=blk12 HRC.out;refine bodyPost_ret (by simp [results,Tryz.results92,go_sem,cc] <;> rfl) rfl ?_;rw [HE.out];exact⟨_,_,_,rfl,Az HOW.out (fun b hb=>⟨by have h1:=hb.1;have h3:=hs1;omega,by have h2:=hb.2;omega⟩),HXX.out⟩
      have bd':(z.dst != r)=false:=by simp only [bne,bd];rfl
      have HE:=Ac (HF.out.trans (by rw [bd]));have hs1:w.heap.size+1+1+1≤w7.heap.size:=by simpa using (((hz1.t hz3).t hz5).t hz7).size
      have hs9:=((hz9.t hz17).t hz20).size;have hR:=Aa (((((((hz1.t hz3).t hz5).t hz7).t hx).t hz9).t hz17).t hz20) HB0.out.2.2;obtain⟨wc,hwc,hrc,hcc,hsc⟩:=vd_set hR (.int .i64 1) (.int .i64 0) (.int .i64 z.kind) (.int .i64 z.src) (.int .i64 z.dst) ((.slice o0 z.path.parts.length c0)) (.int .i64 z.pi) (.int .i64 z.hi) (.int .i64 z.beta) (.int .i64 z.rid) (.int .i64 z.seq) ((.slice o1 z.pay.length c1));have HOW:=Ac (An (Ba OZ.out ((hz9.t hz17).t hz20)) hcc (fun b hb e=>by have h1:=(hS b hb).1;have h3:=hs1;((try simp at e) <;> omega)));have HXX:=Ac (((((((((hx0.t hz1).t hz3).t hz5).t hz7).t hx).t hz9).t hz17).t hz20).chg1 hcc (by omega));have HWC:=Ac hwc;have HRC:=Ac hrc;have hsz2:w20.heap.size=wc.heap.size:=by rw [hsc]
      have gr0:=fr12 hR;clear hR hwc hrc hcc hsc
      try clear cf117
      try clear cf118
      try clear cf119
      try clear cf120
      try clear cf121
      have cf132:=blk2 (Aa (((((((hz1.t hz3).t hz5).t hz7).t hx).t hz9).t hz17).t hz20) HB0.out.1);have cf133:=blk10 (Aa (((((((hz1.t hz3).t hz5).t hz7).t hx).t hz9).t hz17).t hz20) HB0.out.2.1);have cf134:=blk12 (Aa (((((((hz1.t hz3).t hz5).t hz7).t hx).t hz9).t hz17).t hz20) HB0.out.2.2);have cf135:=blk10 (Aa ((hz9.t hz17).t hz20) HGB.out);have cf136:=Ag ((((((((hx0.t hz1).t hz3).t hz5).t hz7).t hx).t hz9).t hz17).t hz20) hc
      go_wp2_with fail
      rw [← HWC.out];clear gr0 cf132 cf133 cf134 cf135 cf136;have cc:=blk12 HRC.out;refine bodyPost_ret (by simp [results,Tryz.results92,go_sem,cc] <;> rfl) rfl ?_;rw [HE.out];exact⟨_,_,_,rfl,Az HOW.out (fun b hb=>⟨by have h1:=(hS b hb).1;have h3:=hs1;omega,by have h2:=(hS b hb).2.1;omega⟩),HXX.out⟩
     have HC:Hid (chkAll t now x.path.parts.length x=(chkCode t now y,verCur t y)):=Ac (HRL.out.symm.trans (chk_stop (by simp [k0])));have HE:=Ac (fw_chk (r:=r) (dead:=dead) (inn:=inn) HB.out HW.out HC.out k0);generalize chkCode t now y=cd at *;have k1:(cd == 0)=false:=by rw [beq_eq_false_iff_ne];exact k0
     have k2:(cd != 0)=true:=by simp only [bne,k1];rfl
     have cf137:=blk2 (Aa ((((hz1.t hz3).t hz5).t hz7).t hx) HB0.out.1);have cf138:=blk10 (Aa ((((hz1.t hz3).t hz5).t hz7).t hx) HB0.out.2.1);have cf139:=blk12 (Aa ((((hz1.t hz3).t hz5).t hz7).t hx) HB0.out.2.2);have cf140:=blk10 HGB.out;have cf141:=Ag (((((hx0.t hz1).t hz3).t hz5).t hz7).t hx) hc
     go_wp2_with fail
     refine(i_decide1 (cd) x _ _ (w.heap.size+1) _ (Aa ((((hz1.t hz3).t hz5).t hz7).t hx) HB0.out.2.1) (r0.ext (((((hx0.t hz1).t hz3).t hz5).t hz7).t hx)) (r1.ext (((((hx0.t hz1).t hz3).t hz5).t hz7).t hx)) hl).mono ?_;rintro e w22 ⟨u0,u1,rfl,oo,hz22⟩;obtain⟨oa,ca,rfl,_⟩:=(As oo).shape;obtain⟨ob,cb,rfl,_⟩:=(At oo).shape;have hs1:w.heap.size+1+1+1≤wr.heap.size:=by simpa using ((((hz1.t hz3).t hz5).t hz7).t hx).size
     have OX:=Ac oo;clear oo;have hR:=Aa (((((hz1.t hz3).t hz5).t hz7).t hx).t hz22) HB0.out.2.2;obtain⟨wc,hwc,hrc,hcc,hsc⟩:=vd_set hR (.int .i64 (cd)) (.int .i64 0) (.int .i64 x.kind) (.int .i64 x.src) (.int .i64 x.dst) ((.slice oa x.path.parts.length ca)) (.int .i64 x.pi) (.int .i64 x.hi) (.int .i64 x.beta) (.int .i64 x.rid) (.int .i64 x.seq) ((.slice ob x.pay.length cb));have HOW:=Ac (An OX.out hcc (fun b hb e=>by have h1:=hb.1;have h2:=hb.2;have h3:=hs1;((try simp at h1) <;> omega)));have HXX:=Ac (((((((hx0.t hz1).t hz3).t hz5).t hz7).t hx).t hz22).chg1 hcc (by omega));have HWC:=Ac hwc;have HRC:=Ac hrc;have hsz2:w22.heap.size=wc.heap.size:=by rw [hsc]
     have gr0:=fr12 hR;clear hR hwc hrc hcc hsc
     try clear cf137
     try clear cf138
     try clear cf139
     try clear cf140
     try clear cf141
     have cf142:=blk2 (Aa (((((hz1.t hz3).t hz5).t hz7).t hx).t hz22) HB0.out.1);have cf143:=blk10 (Aa (((((hz1.t hz3).t hz5).t hz7).t hx).t hz22) HB0.out.2.1);have cf144:=blk12 (Aa (((((hz1.t hz3).t hz5).t hz7).t hx).t hz22) HB0.out.2.2);have cf145:=blk10 (Aa hz22 HGB.out);have cf146:=Ag ((((((hx0.t hz1).t hz3).t hz5).t hz7).t hx).t hz22) hc
     go_wp2_with fail
     rw [← HWC.out];clear gr0 cf142 cf143 cf144 cf145 cf146;have cc:=blk12 HRC.out;refine bodyPost_ret (by simp [results,Tryz.results92,go_sem,cc] <;> rfl) rfl ?_;rw [HE.out];exact⟨_,_,_,rfl,Az HOW.out (fun b hb=>⟨by have h1:=hb.1;have h3:=hs1;omega,by have h2:=hb.2;omega⟩),HXX.out⟩
theorem s_Forward (t:Topo) (va vk:Value) (r now dead inn:Int) (x:Pkt) (v0 v1:Value) (w:World) (ha:RdS ASd.rep w va t.ases) (hk:RdS Lnk.rep w vk t.links) (r0:RdS Part.rep w v0 x.path.parts) (r1:RdS Rep.byte w v1 x.pay) (hl:x.size≤1048576) :
  Calls Tryz.prog 49 #[.agg #[va,vk],.int .i64 r,.int .i64 now,.int .i64 dead,.int .i64 inn,.agg #[.int .i64 x.kind,.int .i64 x.src,.int .i64 x.dst,v0,.int .i64 x.pi,.int .i64 x.hi,.int .i64 x.beta,.int .i64 x.rid,.int .i64 x.seq,v1]] w fun e w'=>∃ u0 u1,e=.returned (.agg #[.int .i64 (forward t r now dead inn x).code,.int .i64 (forward t r now dead inn x).eg,.int .i64 (forward t r now dead inn x).pkt.kind,.int .i64 (forward t r now dead inn x).pkt.src,.int .i64 (forward t r now dead inn x).pkt.dst,u0,.int .i64 (forward t r now dead inn x).pkt.pi,.int .i64 (forward t r now dead inn x).pkt.hi,.int .i64 (forward t r now dead inn x).pkt.beta,.int .i64 (forward t r now dead inn x).pkt.rid,.int .i64 (forward t r now dead inn x).pkt.seq,u1])∧Pkt.own (rng w.heap.size w'.heap.size) w' u0 u1 (forward t r now dead inn x).pkt∧Ext w w':=by
 have hlp:x.path.size≤1048576:=by unfold Pkt.size at hl;omega
 obtain⟨o,cap,rfl,hsm⟩:=r0.shape;obtain⟨oy,cy,rfl,hsy⟩:=r1.shape;obtain⟨hx0,HB0⟩:=ea3 w (.cells #[va,vk] 27) (.cells #[.int .i64 x.kind,.int .i64 x.src,.int .i64 x.dst,.slice o x.path.parts.length cap,.int .i64 x.pi,.int .i64 x.hi,.int .i64 x.beta,.int .i64 x.rid,.int .i64 x.seq,.slice oy x.pay.length cy] 35) (.cells #[.int .i64 0,.int .i64 0,.int .i64 0,.int .i64 0,.int .i64 0,.slice none 0 0,.int .i64 0,.int .i64 0,.int .i64 0,.int .i64 0,.int .i64 0,.slice none 0 0] 76);replace HB0:=Ac HB0
 go_enter Tryz.func49,Tryz.ntmps49
 have cf1:=blk2 HB0.out.1;have cf2:=blk10 HB0.out.2.1;have cf3:=blk12 HB0.out.2.2
 go_wp2_with fail
 refine(s_ValidPacket x _ _ _ (r0.ext hx0) (r1.ext hx0)).mono ?_;rintro e w1 ⟨rfl,hz1⟩
 cases bv:validPkt x
 ·
  have HE:=Ac (fw_bad (t:=t) (r:=r) (now:=now) (dead:=dead) (inn:=inn) (x:=x) (by rw [bv];rfl))
  try clear cf1
  try clear cf2
  try clear cf3
  have cf4:=blk2 (Aa hz1 HB0.out.1);have cf5:=blk10 (Aa hz1 HB0.out.2.1);have cf6:=blk12 (Aa hz1 HB0.out.2.2)
  go_wp2_with fail
  refine(s_l28No (2) x _ _ _ (r0.ext (hx0.t hz1)) (r1.ext (hx0.t hz1)) hl).mono ?_;rintro e w2 ⟨u0,u1,rfl,oo,hz2⟩;obtain⟨oa,ca,rfl,_⟩:=(As oo).shape;obtain⟨ob,cb,rfl,_⟩:=(At oo).shape;have hs1:w.heap.size+1+1+1≤w1.heap.size:=by simpa using hz1.size
  have OX:=Ac oo;clear oo;have hR:=Aa (hz1.t hz2) HB0.out.2.2;obtain⟨wc,hwc,hrc,hcc,hsc⟩:=vd_set hR (.int .i64 (2)) (.int .i64 0) (.int .i64 x.kind) (.int .i64 x.src) (.int .i64 x.dst) ((.slice oa x.path.parts.length ca)) (.int .i64 x.pi) (.int .i64 x.hi) (.int .i64 x.beta) (.int .i64 x.rid) (.int .i64 x.seq) ((.slice ob x.pay.length cb));have HOW:=Ac (An OX.out hcc (fun b hb e=>by have h1:=hb.1;have h2:=hb.2;have h3:=hs1;((try simp at h1) <;> omega)));have HXX:=Ac (((hx0.t hz1).t hz2).chg1 hcc (by omega));have HWC:=Ac hwc;have HRC:=Ac hrc;have hsz2:w2.heap.size=wc.heap.size:=by rw [hsc]
  have gr0:=fr12 hR;clear hR hwc hrc hcc hsc
  try clear cf4
  try clear cf5
  try clear cf6
  have cf7:=blk2 (Aa (hz1.t hz2) HB0.out.1);have cf8:=blk10 (Aa (hz1.t hz2) HB0.out.2.1);have cf9:=blk12 (Aa (hz1.t hz2) HB0.out.2.2)
  go_wp2_with fail
  rw [← HWC.out];clear gr0 cf7 cf8 cf9;have cc:=blk12 HRC.out;refine bodyPost_ret (by simp [results,Tryz.results49,go_sem,cc] <;> rfl) rfl ?_;rw [HE.out];exact⟨_,_,rfl,Az HOW.out (fun b hb=>⟨by have h1:=hb.1;have h3:=hs1;omega,by have h2:=hb.2;omega⟩),HXX.out⟩
 try clear cf1
 try clear cf2
 try clear cf3
 have cf10:=blk2 (Aa hz1 HB0.out.1);have cf11:=blk10 (Aa hz1 HB0.out.2.1);have cf12:=blk12 (Aa hz1 HB0.out.2.2)
 go_wp2_with fail
 refine(s_SimplePath t _ _ x.path _ _ (ha.ext (hx0.t hz1)) (hk.ext (hx0.t hz1)) (r0.ext (hx0.t hz1)) hlp).mono ?_;rintro e w3 ⟨rfl,hz3⟩
 cases bs:simple t x.path
 ·
  have HE:=Ac (fw_bad (t:=t) (r:=r) (now:=now) (dead:=dead) (inn:=inn) (x:=x) (by rw [bs];simp))
  try clear cf10
  try clear cf11
  try clear cf12
  have cf13:=blk2 (Aa (hz1.t hz3) HB0.out.1);have cf14:=blk10 (Aa (hz1.t hz3) HB0.out.2.1);have cf15:=blk12 (Aa (hz1.t hz3) HB0.out.2.2)
  go_wp2_with fail
  refine(s_l28No (2) x _ _ _ (r0.ext ((hx0.t hz1).t hz3)) (r1.ext ((hx0.t hz1).t hz3)) hl).mono ?_;rintro e w4 ⟨u0,u1,rfl,oo,hz4⟩;obtain⟨oa,ca,rfl,_⟩:=(As oo).shape;obtain⟨ob,cb,rfl,_⟩:=(At oo).shape;have hs1:w.heap.size+1+1+1≤w3.heap.size:=by simpa using (hz1.t hz3).size
  have OX:=Ac oo;clear oo;have hR:=Aa ((hz1.t hz3).t hz4) HB0.out.2.2;obtain⟨wc,hwc,hrc,hcc,hsc⟩:=vd_set hR (.int .i64 (2)) (.int .i64 0) (.int .i64 x.kind) (.int .i64 x.src) (.int .i64 x.dst) ((.slice oa x.path.parts.length ca)) (.int .i64 x.pi) (.int .i64 x.hi) (.int .i64 x.beta) (.int .i64 x.rid) (.int .i64 x.seq) ((.slice ob x.pay.length cb));have HOW:=Ac (An OX.out hcc (fun b hb e=>by have h1:=hb.1;have h2:=hb.2;have h3:=hs1;((try simp at h1) <;> omega)));have HXX:=Ac ((((hx0.t hz1).t hz3).t hz4).chg1 hcc (by omega));have HWC:=Ac hwc;have HRC:=Ac hrc;have hsz2:w4.heap.size=wc.heap.size:=by rw [hsc]
  have gr0:=fr12 hR;clear hR hwc hrc hcc hsc
  try clear cf13
  try clear cf14
  try clear cf15
  have cf16:=blk2 (Aa ((hz1.t hz3).t hz4) HB0.out.1);have cf17:=blk10 (Aa ((hz1.t hz3).t hz4) HB0.out.2.1);have cf18:=blk12 (Aa ((hz1.t hz3).t hz4) HB0.out.2.2)
  go_wp2_with fail
  rw [← HWC.out];clear gr0 cf16 cf17 cf18;have cc:=blk12 HRC.out;refine bodyPost_ret (by simp [results,Tryz.results49,go_sem,cc] <;> rfl) rfl ?_;rw [HE.out];exact⟨_,_,rfl,Az HOW.out (fun b hb=>⟨by have h1:=hb.1;have h3:=hs1;omega,by have h2:=hb.2;omega⟩),HXX.out⟩
 try clear cf10
 try clear cf11
 try clear cf12
 have cf19:=blk2 (Aa (hz1.t hz3) HB0.out.1);have cf20:=blk10 (Aa (hz1.t hz3) HB0.out.2.1);have cf21:=blk12 (Aa (hz1.t hz3) HB0.out.2.2)
 go_wp2_with fail
 refine(s_CurrentAS x _ _ _ (r0.ext ((hx0.t hz1).t hz3))).mono ?_;rintro e w5 ⟨rfl,hz5⟩
 cases bc:(curAs x == r)
 ·
  have bc':(curAs x != r)=true:=by simp only [bne,bc];rfl
  have HE:=Ac (fw_bad (t:=t) (r:=r) (now:=now) (dead:=dead) (inn:=inn) (x:=x) (by rw [bc];simp))
  try clear cf19
  try clear cf20
  try clear cf21
  have cf22:=blk2 (Aa ((hz1.t hz3).t hz5) HB0.out.1);have cf23:=blk10 (Aa ((hz1.t hz3).t hz5) HB0.out.2.1);have cf24:=blk12 (Aa ((hz1.t hz3).t hz5) HB0.out.2.2)
  go_wp2_with fail
  refine(s_l28No (2) x _ _ _ (r0.ext (((hx0.t hz1).t hz3).t hz5)) (r1.ext (((hx0.t hz1).t hz3).t hz5)) hl).mono ?_;rintro e w6 ⟨u0,u1,rfl,oo,hz6⟩;obtain⟨oa,ca,rfl,_⟩:=(As oo).shape;obtain⟨ob,cb,rfl,_⟩:=(At oo).shape;have hs1:w.heap.size+1+1+1≤w5.heap.size:=by simpa using ((hz1.t hz3).t hz5).size
  have OX:=Ac oo;clear oo;have hR:=Aa (((hz1.t hz3).t hz5).t hz6) HB0.out.2.2;obtain⟨wc,hwc,hrc,hcc,hsc⟩:=vd_set hR (.int .i64 (2)) (.int .i64 0) (.int .i64 x.kind) (.int .i64 x.src) (.int .i64 x.dst) ((.slice oa x.path.parts.length ca)) (.int .i64 x.pi) (.int .i64 x.hi) (.int .i64 x.beta) (.int .i64 x.rid) (.int .i64 x.seq) ((.slice ob x.pay.length cb));have HOW:=Ac (An OX.out hcc (fun b hb e=>by have h1:=hb.1;have h2:=hb.2;have h3:=hs1;((try simp at h1) <;> omega)));have HXX:=Ac (((((hx0.t hz1).t hz3).t hz5).t hz6).chg1 hcc (by omega));have HWC:=Ac hwc;have HRC:=Ac hrc;have hsz2:w6.heap.size=wc.heap.size:=by rw [hsc]
  have gr0:=fr12 hR;clear hR hwc hrc hcc hsc
  try clear cf22
  try clear cf23
  try clear cf24
  have cf25:=blk2 (Aa (((hz1.t hz3).t hz5).t hz6) HB0.out.1);have cf26:=blk10 (Aa (((hz1.t hz3).t hz5).t hz6) HB0.out.2.1);have cf27:=blk12 (Aa (((hz1.t hz3).t hz5).t hz6) HB0.out.2.2)
  go_wp2_with fail
  rw [← HWC.out];clear gr0 cf25 cf26 cf27;have cc:=blk12 HRC.out;refine bodyPost_ret (by simp [results,Tryz.results49,go_sem,cc] <;> rfl) rfl ?_;rw [HE.out];exact⟨_,_,rfl,Az HOW.out (fun b hb=>⟨by have h1:=hb.1;have h3:=hs1;omega,by have h2:=hb.2;omega⟩),HXX.out⟩
 have bc':(curAs x != r)=false:=by simp only [bne,bc];rfl
 have HB:=Ac (show(validPkt x && simple t x.path && (curAs x == r))=true by rw [bv,bs,bc];rfl);obtain⟨⟨p0,p1,p2⟩,q0,q1,q2⟩:=Cc (valid_has bv);have hcp:=curPart_at p2;obtain⟨b,off,oh,ch,rfl,hc,hr⟩:=Bx r0 x.pi.toNat p2;rw [← hcp] at hc hr;clear hcp bv bs bc
 try clear cf19
 try clear cf20
 try clear cf21
 have cf28:=blk2 (Aa ((hz1.t hz3).t hz5) HB0.out.1);have cf29:=blk10 (Aa ((hz1.t hz3).t hz5) HB0.out.2.1);have cf30:=blk12 (Aa ((hz1.t hz3).t hz5) HB0.out.2.2);have cf31:=Ag (((hx0.t hz1).t hz3).t hz5) hc
 go_wp2_with fail
 refine Al (by kernel_rfl) (by kernel_rfl) ?_;have q0:=Br cf28;have q2:=Bp cf29;have q12:=ExtW.c12 cf30;have q24:=Bm cf31
 repeat (first | go_big_quiet_step (((first | (go_at_call 93;exact Ai (s_PartIngress (curPart x) _ x.hi _ ((hr.ext (((hx0.t hz1).t hz3).t hz5)).ext (ExtW.h _))))))) | quiet_step (((first | (go_at_call 93;exact Ai (s_PartIngress (curPart x) _ x.hi _ ((hr.ext (((hx0.t hz1).t hz3).t hz5)).ext (ExtW.h _))))))))
 refine wpQuiet_nil ?_;intro w7 hw7;have hz7:=Bc hw7;clear hw7 q0 q2 q12 q24;have HWF:=Ac (fun(h:((x.pi == 0) && (x.hi == 0))=false)=>(wantIn_f h).symm);have HWT:=Ac (fun(h:((x.pi == 0) && (x.hi == 0))=true)=>(wantIn_t h).symm)
 try clear cf28
 try clear cf29
 try clear cf30
 try clear cf31
 have cf32:=blk2 (Aa (((hz1.t hz3).t hz5).t hz7) HB0.out.1);have cf33:=blk10 (Aa (((hz1.t hz3).t hz5).t hz7) HB0.out.2.1);have cf34:=blk12 (Aa (((hz1.t hz3).t hz5).t hz7) HB0.out.2.2);have cf35:=Ag ((((hx0.t hz1).t hz3).t hz5).t hz7) hc
 go_upto_region 4 with (fail)
 go_cut [52] (fun c wx=>∃ cb:Bool,c=.bool cb∧Hid (((x.pi == 0) && (x.hi == 0))=cb)∧w7=wx)
 case first=>
  cases hp:(x.pi == 0)
  ·
   go_wp2_with fail
   go_meet
   exact⟨false,rfl,Ac (by rw [hp];rfl),rfl⟩
  go_wp2_with fail
  go_meet
  exact⟨_,rfl,Ac (by rw [hp];rfl),rfl⟩
 case rest=>
  obtain⟨cb,rfl,HCB,hwq⟩:=hcut;subst hwq
  go_upto_if 52 with (fail)
  go_cut [13] (fun c wx=>c=.int .i64 (wantIn x)∧w7=wx)
  case first=>
   cases cb
   ·
    go_wp2_with fail
    go_meet
    exact⟨congrArg (Value.int .i64) (HWF.out HCB.out),rfl⟩
   go_wp2_with fail
   go_meet
   exact⟨congrArg (Value.int .i64) (HWT.out HCB.out),rfl⟩
  case rest=>
   obtain⟨rfl,hwq⟩:=hcut;subst hwq
   cases bw:(inn == wantIn x)
   ·
    have bw':(inn != wantIn x)=true:=by simp only [bne,bw];rfl
    have HE:=Ac (fw_in (now:=now) (dead:=dead) HB.out bw')
    go_wp2_with fail
    refine(s_l28No (3) x _ _ _ (r0.ext ((((hx0.t hz1).t hz3).t hz5).t hz7)) (r1.ext ((((hx0.t hz1).t hz3).t hz5).t hz7)) hl).mono ?_;rintro e w8 ⟨u0,u1,rfl,oo,hz8⟩;obtain⟨oa,ca,rfl,_⟩:=(As oo).shape;obtain⟨ob,cb,rfl,_⟩:=(At oo).shape;have hs1:w.heap.size+1+1+1≤w7.heap.size:=by simpa using (((hz1.t hz3).t hz5).t hz7).size
    have OX:=Ac oo;clear oo;have hR:=Aa ((((hz1.t hz3).t hz5).t hz7).t hz8) HB0.out.2.2;obtain⟨wc,hwc,hrc,hcc,hsc⟩:=vd_set hR (.int .i64 (3)) (.int .i64 0) (.int .i64 x.kind) (.int .i64 x.src) (.int .i64 x.dst) ((.slice oa x.path.parts.length ca)) (.int .i64 x.pi) (.int .i64 x.hi) (.int .i64 x.beta) (.int .i64 x.rid) (.int .i64 x.seq) ((.slice ob x.pay.length cb));have HOW:=Ac (An OX.out hcc (fun b hb e=>by have h1:=hb.1;have h2:=hb.2;have h3:=hs1;((try simp at h1) <;> omega)));have HXX:=Ac ((((((hx0.t hz1).t hz3).t hz5).t hz7).t hz8).chg1 hcc (by omega));have HWC:=Ac hwc;have HRC:=Ac hrc;have hsz2:w8.heap.size=wc.heap.size:=by rw [hsc]
    have gr0:=fr12 hR;clear hR hwc hrc hcc hsc
    try clear cf32
    try clear cf33
    try clear cf34
    try clear cf35
    have cf36:=blk2 (Aa ((((hz1.t hz3).t hz5).t hz7).t hz8) HB0.out.1);have cf37:=blk10 (Aa ((((hz1.t hz3).t hz5).t hz7).t hz8) HB0.out.2.1);have cf38:=blk12 (Aa ((((hz1.t hz3).t hz5).t hz7).t hz8) HB0.out.2.2);have cf39:=Ag (((((hx0.t hz1).t hz3).t hz5).t hz7).t hz8) hc
    go_wp2_with fail
    rw [← HWC.out];clear gr0 cf36 cf37 cf38 cf39;have cc:=blk12 HRC.out;refine bodyPost_ret (by simp [results,Tryz.results49,go_sem,cc] <;> rfl) rfl ?_;rw [HE.out];exact⟨_,_,rfl,Az HOW.out (fun b hb=>⟨by have h1:=hb.1;have h3:=hs1;omega,by have h2:=hb.2;omega⟩),HXX.out⟩
   have bw':(inn != wantIn x)=false:=by simp only [bne,bw];rfl
   have HW:=Ac bw';generalize wantIn x=wi at bw'
   go_wp2_with fail
   refine(s_l28Check t _ _ now x _ _ _ (ha.ext ((((hx0.t hz1).t hz3).t hz5).t hz7)) (hk.ext ((((hx0.t hz1).t hz3).t hz5).t hz7)) (r0.ext ((((hx0.t hz1).t hz3).t hz5).t hz7)) (r1.ext ((((hx0.t hz1).t hz3).t hz5).t hz7)) hl).mono ?_;rintro e w9 ⟨u0,u1,rfl,ou,hz9⟩;obtain⟨o0,c0,rfl,_⟩:=(As ou).shape;obtain⟨o1,c1,rfl,_⟩:=(At ou).shape;have hxk:=hz9
   obtain⟨g,hgw⟩:∃ g:Nat,g=w9.heap.size:=⟨_,rfl⟩
   have hxc:=hxk.alloc (.cells #[.int .i64 (verCur t x).kind,.int .i64 (verCur t x).src,.int .i64 (verCur t x).dst,.slice o0 (verCur t x).path.parts.length c0,.int .i64 (verCur t x).pi,.int .i64 (verCur t x).hi,.int .i64 (verCur t x).beta,.int .i64 (verCur t x).rid,.int .i64 (verCur t x).seq,.slice o1 (verCur t x).pay.length c1] 35);have hge:w7.heap.size≤g:=by rw [hgw];exact hxk.size
   have HST0:Hid (CurSt w7.heap.size g (verCur t x) (chkCode t now x) (w9.alloc (.cells #[.int .i64 (verCur t x).kind,.int .i64 (verCur t x).src,.int .i64 (verCur t x).dst,.slice o0 (verCur t x).path.parts.length c0,.int .i64 (verCur t x).pi,.int .i64 (verCur t x).hi,.int .i64 (verCur t x).beta,.int .i64 (verCur t x).rid,.int .i64 (verCur t x).seq,.slice o1 (verCur t x).pay.length c1] 35))):=by
    rw [hgw];exact Ac ⟨o0,_,c0,o1,_,c1,_,blk_new _ _,fun _=>Ba ou ((Ab _).alloc _),fun b hb=>⟨hb.1,Ak hb.2 ((Ab _).alloc _).size,fun e=>by rw [e] at hb;exact absurd hb.2 (Nat.lt_irrefl _)⟩⟩
   clear ou
   try clear cf32
   try clear cf33
   try clear cf34
   try clear cf35
   have cf40:=blk2 (Aa ((((hz1.t hz3).t hz5).t hz7).t hxk) HB0.out.1);have cf41:=blk10 (Aa ((((hz1.t hz3).t hz5).t hz7).t hxk) HB0.out.2.1);have cf42:=blk12 (Aa ((((hz1.t hz3).t hz5).t hz7).t hxk) HB0.out.2.2);have cf43:=Ag (((((hx0.t hz1).t hz3).t hz5).t hz7).t hxk) hc
   go_wp2_with fail
   rw [← hgw];clear hgw
   try clear cf40
   try clear cf41
   try clear cf42
   try clear cf43
   go_loopg [15] x.path.parts.length (fun gk c wr=>∃ y:Pkt,c=.int .i64 (chkCode t now y)∧CurSt w7.heap.size g (verCur t y) (chkCode t now y) wr∧Hid (chkAll t now gk y=chkAll t now x.path.parts.length x)∧Hid (y.path=x.path)∧Hid (y.size=x.size)∧x.path.parts.length≤gk+y.pi.toNat∧Ext w7 wr)
   case atStart=>exact⟨x,rfl,HST0.out,Ac rfl,Ac rfl,Ac rfl,Nat.le_add_right _ _,hxc⟩
   case round=>
    clear HST0 hxc;obtain⟨y,rfl,hst,HRL,HP,HS,hN,hx⟩:=hrel;obtain⟨o0,n0,c0,o1,n1,c1,S0,hg,hown,hS⟩:=hst;have HGB:=Ac hg;clear hg
    by_cases k0:chkCode t now y=0
    ·
     obtain⟨hhz,hcz⟩:=code_has k0;have HZP:=Ac ((verCur_path t y).trans HP.out);have HZS:=Ac ((verCur_size t y).trans HS.out);have HZI:=Ac (verCur_pi t y);have HGO:=Ac (fun(f:Nat)=>chk_go (f:=f) k0);have HSTP:=Ac (fun(h:(lastOf (verCur t y) && !(atLast (verCur t y)))=false)=>chk_stop (f:=gk) (t:=t) (now:=now) (x:=y) (by rw [k0];simpa using h));rw [k0] at hown;generalize hz:verCur t y=z at *;have HZ:=Ac hz;clear hz;have oz:=hown rfl;have OZ:=Ac oz;obtain⟨_,_,he0,_⟩:=(As oz).shape;obtain⟨_,_,he1,_⟩:=(At oz).shape
     cases he0
     cases he1
     have rz0:=As oz;have rz1:=At oz;clear oz hown;rw [k0];have K0:=Ac k0;clear k0;obtain⟨⟨z0,z1,z2⟩,y0,y1,y2⟩:=Cc hhz;have hlz:z.size≤1048576:=by rw [HZS.out];exact hl
     have HCH:Hid (chkAll t now x.path.parts.length x=(0,z)↔chkAll t now gk y=(0,z)):=Ac (by rw [HRL.out]);have hcz3:=curPart_at z2;obtain⟨bz,offz,ohz,chz,hzz,hcc,hrc⟩:=Bx rz0 z.pi.toNat z2;rw [← hcz3] at hcc hrc;clear hcz3;obtain⟨_,_,_,hlh⟩:=hrc.shape;have hlp2:z.path.parts.length≤9223372036854775807:=rz0.small
     cases hzz
     have hw1:IntKind.i64.wrap (((curPart z).hops.length:Int) - 1)=((curPart z).hops.length:Int) - 1:=IntWalk.i64_in _ (by omega);have hw2:IntKind.i64.wrap ((z.path.parts.length:Int) - 1)=(z.path.parts.length:Int) - 1:=IntWalk.i64_in _ (by omega)
     cases bl:lastOf z
     ·
      have bal:atLast z=false:=by unfold atLast;rw [bl];simp
      have bl2:(z.hi == ((curPart z).hops.length:Int) - 1)=false:=bl;have cf44:=blk2 (Aa ((((hz1.t hz3).t hz5).t hz7).t hx) HB0.out.1);have cf45:=blk10 (Aa ((((hz1.t hz3).t hz5).t hz7).t hx) HB0.out.2.1);have cf46:=blk12 (Aa ((((hz1.t hz3).t hz5).t hz7).t hx) HB0.out.2.2);have cf47:=blk10 HGB.out;have cf48:=Ag (((((hx0.t hz1).t hz3).t hz5).t hz7).t hx) hc
      go_wp2_with fail
      refine Al (by kernel_rfl) (by kernel_rfl) ?_;have q0:=Br cf44;have q2:=Bp cf45;have q12:=ExtW.c12 cf46;have q24:=Bp cf47;have q34:=Bm cf48;have q38:=Bm hcc
      repeat (first | go_big_quiet_step ((fail)) | quiet_step ((fail)))
      refine wpQuiet_nil ?_;intro w10 hw10;have hz10:=Bc hw10;clear hw10 q0 q2 q12 q24 q34 q38;clear hw1 hw2;have HC:Hid (chkAll t now x.path.parts.length x=(0,z)):=Ac (HCH.out.2 ((HSTP.out (by rw [bl];rfl)).trans (by rw [K0.out])));have HF:=Ac (fw_out (r:=r) (dead:=dead) (inn:=inn) HB.out HW.out HC.out bal)
      try clear cf44
      try clear cf45
      try clear cf46
      try clear cf47
      try clear cf48
      have cf49:=blk2 (Aa (((((hz1.t hz3).t hz5).t hz7).t hx).t hz10) HB0.out.1);have cf50:=blk10 (Aa (((((hz1.t hz3).t hz5).t hz7).t hx).t hz10) HB0.out.2.1);have cf51:=blk12 (Aa (((((hz1.t hz3).t hz5).t hz7).t hx).t hz10) HB0.out.2.2);have cf52:=blk10 (Aa hz10 HGB.out);have cf53:=Ag ((((((hx0.t hz1).t hz3).t hz5).t hz7).t hx).t hz10) hc;have cf54:=Ag hz10 hcc
      go_wp2_with fail
      refine(s_AtLastHop z _ _ _ (rz0.ext hz10)).mono ?_;rintro e w11 ⟨rfl,hz11⟩;rw [bal]
      try clear cf49
      try clear cf50
      try clear cf51
      try clear cf52
      try clear cf53
      try clear cf54
      have cf55:=blk2 (Aa ((((((hz1.t hz3).t hz5).t hz7).t hx).t hz10).t hz11) HB0.out.1);have cf56:=blk10 (Aa ((((((hz1.t hz3).t hz5).t hz7).t hx).t hz10).t hz11) HB0.out.2.1);have cf57:=blk12 (Aa ((((((hz1.t hz3).t hz5).t hz7).t hx).t hz10).t hz11) HB0.out.2.2);have cf58:=blk10 (Aa (hz10.t hz11) HGB.out);have cf59:=Ag (((((((hx0.t hz1).t hz3).t hz5).t hz7).t hx).t hz10).t hz11) hc;have cf60:=Ag (hz10.t hz11) hcc
      go_wp2_with fail
      refine(s_AtLastHop z _ _ _ (rz0.ext (hz10.t hz11))).mono ?_;rintro e w12 ⟨rfl,hz12⟩;rw [bal]
      try clear cf55
      try clear cf56
      try clear cf57
      try clear cf58
      try clear cf59
      try clear cf60
      have cf61:=blk2 (Aa (((((((hz1.t hz3).t hz5).t hz7).t hx).t hz10).t hz11).t hz12) HB0.out.1);have cf62:=blk10 (Aa (((((((hz1.t hz3).t hz5).t hz7).t hx).t hz10).t hz11).t hz12) HB0.out.2.1);have cf63:=blk12 (Aa (((((((hz1.t hz3).t hz5).t hz7).t hx).t hz10).t hz11).t hz12) HB0.out.2.2);have cf64:=blk10 (Aa ((hz10.t hz11).t hz12) HGB.out);have cf65:=Ag ((((((((hx0.t hz1).t hz3).t hz5).t hz7).t hx).t hz10).t hz11).t hz12) hc;have cf66:=Ag ((hz10.t hz11).t hz12) hcc
      go_wp2_with fail
      refine Al (by kernel_rfl) (by kernel_rfl) ?_;have q0:=Br cf61;have q2:=Bp cf62;have q12:=ExtW.c12 cf63;have q24:=Bp cf64;have q34:=Bm cf65;have q38:=Bm cf66
      repeat (first | go_big_quiet_step (((first | (go_at_call 94;exact Ai (s_PartEgress (curPart z) _ z.hi _ ((hrc.ext ((hz10.t hz11).t hz12)).ext (ExtW.h _))))))) | quiet_step (((first | (go_at_call 94;exact Ai (s_PartEgress (curPart z) _ z.hi _ ((hrc.ext ((hz10.t hz11).t hz12)).ext (ExtW.h _))))))))
      refine wpQuiet_nil ?_;intro w13 hw13;have hz13:=Bc hw13;clear hw13 q0 q2 q12 q24 q34 q38;generalize heg:partEg (curPart z) z.hi=eg at *;have HEG:=Ac heg;clear heg
      try clear cf61
      try clear cf62
      try clear cf63
      try clear cf64
      try clear cf65
      try clear cf66
      have cf67:=blk2 (Aa ((((((((hz1.t hz3).t hz5).t hz7).t hx).t hz10).t hz11).t hz12).t hz13) HB0.out.1);have cf68:=blk10 (Aa ((((((((hz1.t hz3).t hz5).t hz7).t hx).t hz10).t hz11).t hz12).t hz13) HB0.out.2.1);have cf69:=blk12 (Aa ((((((((hz1.t hz3).t hz5).t hz7).t hx).t hz10).t hz11).t hz12).t hz13) HB0.out.2.2);have cf70:=blk10 (Aa (((hz10.t hz11).t hz12).t hz13) HGB.out);have cf71:=Ag (((((((((hx0.t hz1).t hz3).t hz5).t hz7).t hx).t hz10).t hz11).t hz12).t hz13) hc;have cf72:=Ag (((hz10.t hz11).t hz12).t hz13) hcc
      go_wp2_with fail
      refine(s_StepAllowed t _ _ ⟨r,inn,eg⟩ _ (hk.ext (((((((((hx0.t hz1).t hz3).t hz5).t hz7).t hx).t hz10).t hz11).t hz12).t hz13))).mono ?_;rintro e w14 ⟨rfl,hz14⟩
      cases bso:stepOk t ⟨r,inn,eg⟩
      ·
       have HE:=Ac (HF.out.trans (by rw [bso]))
       try clear cf67
       try clear cf68
       try clear cf69
       try clear cf70
       try clear cf71
       try clear cf72
       have cf73:=blk2 (Aa (((((((((hz1.t hz3).t hz5).t hz7).t hx).t hz10).t hz11).t hz12).t hz13).t hz14) HB0.out.1);have cf74:=blk10 (Aa (((((((((hz1.t hz3).t hz5).t hz7).t hx).t hz10).t hz11).t hz12).t hz13).t hz14) HB0.out.2.1);have cf75:=blk12 (Aa (((((((((hz1.t hz3).t hz5).t hz7).t hx).t hz10).t hz11).t hz12).t hz13).t hz14) HB0.out.2.2);have cf76:=blk10 (Aa ((((hz10.t hz11).t hz12).t hz13).t hz14) HGB.out);have cf77:=Ag ((((((((((hx0.t hz1).t hz3).t hz5).t hz7).t hx).t hz10).t hz11).t hz12).t hz13).t hz14) hc;have cf78:=Ag ((((hz10.t hz11).t hz12).t hz13).t hz14) hcc
       go_wp2_with fail
       refine(s_l28No (6) x _ _ _ (r0.ext ((((((((((hx0.t hz1).t hz3).t hz5).t hz7).t hx).t hz10).t hz11).t hz12).t hz13).t hz14)) (r1.ext ((((((((((hx0.t hz1).t hz3).t hz5).t hz7).t hx).t hz10).t hz11).t hz12).t hz13).t hz14)) hl).mono ?_;rintro e w15 ⟨u0,u1,rfl,oo,hz15⟩;obtain⟨oa,ca,rfl,_⟩:=(As oo).shape;obtain⟨ob,cb,rfl,_⟩:=(At oo).shape;have hs1:w.heap.size+1+1+1≤w14.heap.size:=by simpa using (((((((((hz1.t hz3).t hz5).t hz7).t hx).t hz10).t hz11).t hz12).t hz13).t hz14).size
       have OX:=Ac oo;clear oo;have hR:=Aa ((((((((((hz1.t hz3).t hz5).t hz7).t hx).t hz10).t hz11).t hz12).t hz13).t hz14).t hz15) HB0.out.2.2;obtain⟨wc,hwc,hrc,hcc,hsc⟩:=vd_set hR (.int .i64 (6)) (.int .i64 0) (.int .i64 x.kind) (.int .i64 x.src) (.int .i64 x.dst) ((.slice oa x.path.parts.length ca)) (.int .i64 x.pi) (.int .i64 x.hi) (.int .i64 x.beta) (.int .i64 x.rid) (.int .i64 x.seq) ((.slice ob x.pay.length cb));have HOW:=Ac (An OX.out hcc (fun b hb e=>by have h1:=hb.1;have h2:=hb.2;have h3:=hs1;((try simp at h1) <;> omega)));have HXX:=Ac ((((((((((((hx0.t hz1).t hz3).t hz5).t hz7).t hx).t hz10).t hz11).t hz12).t hz13).t hz14).t hz15).chg1 hcc (by omega));have HWC:=Ac hwc;have HRC:=Ac hrc;have hsz2:w15.heap.size=wc.heap.size:=by rw [hsc]
       have gr0:=fr12 hR;clear hR hwc hrc hcc hsc
       try clear cf73
       try clear cf74
       try clear cf75
       try clear cf76
       try clear cf77
       try clear cf78
       have cf79:=blk2 (Aa ((((((((((hz1.t hz3).t hz5).t hz7).t hx).t hz10).t hz11).t hz12).t hz13).t hz14).t hz15) HB0.out.1);have cf80:=blk10 (Aa ((((((((((hz1.t hz3).t hz5).t hz7).t hx).t hz10).t hz11).t hz12).t hz13).t hz14).t hz15) HB0.out.2.1);have cf81:=blk12 (Aa ((((((((((hz1.t hz3).t hz5).t hz7).t hx).t hz10).t hz11).t hz12).t hz13).t hz14).t hz15) HB0.out.2.2);have cf82:=blk10 (Aa (((((hz10.t hz11).t hz12).t hz13).t hz14).t hz15) HGB.out);have cf83:=Ag (((((((((((hx0.t hz1).t hz3).t hz5).t hz7).t hx).t hz10).t hz11).t hz12).t hz13).t hz14).t hz15) hc;have cf84:=Ag (((((hz10.t hz11).t hz12).t hz13).t hz14).t hz15) hcc
       go_wp2_with fail
       rw [← HWC.out];clear gr0 cf79 cf80 cf81 cf82 cf83 cf84;have cc:=blk12 HRC.out;refine bodyPost_ret (by simp [results,Tryz.results49,go_sem,cc] <;> rfl) rfl ?_;rw [HE.out];exact⟨_,_,rfl,Az HOW.out (fun b hb=>⟨by have h1:=hb.1;have h3:=hs1;omega,by have h2:=hb.2;omega⟩),HXX.out⟩
      try clear cf67
      try clear cf68
      try clear cf69
      try clear cf70
      try clear cf71
      try clear cf72
      have cf85:=blk2 (Aa (((((((((hz1.t hz3).t hz5).t hz7).t hx).t hz10).t hz11).t hz12).t hz13).t hz14) HB0.out.1);have cf86:=blk10 (Aa (((((((((hz1.t hz3).t hz5).t hz7).t hx).t hz10).t hz11).t hz12).t hz13).t hz14) HB0.out.2.1);have cf87:=blk12 (Aa (((((((((hz1.t hz3).t hz5).t hz7).t hx).t hz10).t hz11).t hz12).t hz13).t hz14) HB0.out.2.2);have cf88:=blk10 (Aa ((((hz10.t hz11).t hz12).t hz13).t hz14) HGB.out);have cf89:=Ag ((((((((((hx0.t hz1).t hz3).t hz5).t hz7).t hx).t hz10).t hz11).t hz12).t hz13).t hz14) hc;have cf90:=Ag ((((hz10.t hz11).t hz12).t hz13).t hz14) hcc
      go_wp2_with fail
      refine(s_Contains _ _ _).mono ?_;rintro e _ ⟨rfl,rfl⟩
      cases bin:inSet dead eg
      ·
       have HE:=Ac (HF.out.trans (by rw [bso,bin]))
       go_wp2_with fail
       refine(s_AdvanceHop z _ _ _ (rz0.ext ((((hz10.t hz11).t hz12).t hz13).t hz14)) (rz1.ext ((((hz10.t hz11).t hz12).t hz13).t hz14)) hlz).mono ?_;rintro e w17 ⟨u0,u1,rfl,oa,hz17⟩;obtain⟨ox,cx,rfl,_⟩:=(As oa).shape;obtain⟨oxx,cxx,rfl,_⟩:=(At oa).shape;have hs1:w.heap.size+1+1+1≤w14.heap.size:=by simpa using (((((((((hz1.t hz3).t hz5).t hz7).t hx).t hz10).t hz11).t hz12).t hz13).t hz14).size
       have OX:=Ac oa;clear oa;have hR:=Aa ((((((((((hz1.t hz3).t hz5).t hz7).t hx).t hz10).t hz11).t hz12).t hz13).t hz14).t hz17) HB0.out.2.2;obtain⟨wc,hwc,hrc,hcc,hsc⟩:=vd_set hR (.int .i64 0) (.int .i64 eg) (.int .i64 (advance z).kind) (.int .i64 (advance z).src) (.int .i64 (advance z).dst) ((.slice ox (advance z).path.parts.length cx)) (.int .i64 (advance z).pi) (.int .i64 (advance z).hi) (.int .i64 (advance z).beta) (.int .i64 (advance z).rid) (.int .i64 (advance z).seq) ((.slice oxx (advance z).pay.length cxx));have HOW:=Ac (An OX.out hcc (fun b hb e=>by have h1:=hb.1;have h2:=hb.2;have h3:=hs1;((try simp at h1) <;> omega)));have HXX:=Ac ((((((((((((hx0.t hz1).t hz3).t hz5).t hz7).t hx).t hz10).t hz11).t hz12).t hz13).t hz14).t hz17).chg1 hcc (by omega));have HWC:=Ac hwc;have HRC:=Ac hrc;have hsz2:w17.heap.size=wc.heap.size:=by rw [hsc]
       have gr0:=fr12 hR;clear hR hwc hrc hcc hsc
       try clear cf85
       try clear cf86
       try clear cf87
       try clear cf88
       try clear cf89
       try clear cf90
       have cf91:=blk2 (Aa ((((((((((hz1.t hz3).t hz5).t hz7).t hx).t hz10).t hz11).t hz12).t hz13).t hz14).t hz17) HB0.out.1);have cf92:=blk10 (Aa ((((((((((hz1.t hz3).t hz5).t hz7).t hx).t hz10).t hz11).t hz12).t hz13).t hz14).t hz17) HB0.out.2.1);have cf93:=blk12 (Aa ((((((((((hz1.t hz3).t hz5).t hz7).t hx).t hz10).t hz11).t hz12).t hz13).t hz14).t hz17) HB0.out.2.2);have cf94:=blk10 (Aa (((((hz10.t hz11).t hz12).t hz13).t hz14).t hz17) HGB.out);have cf95:=Ag (((((((((((hx0.t hz1).t hz3).t hz5).t hz7).t hx).t hz10).t hz11).t hz12).t hz13).t hz14).t hz17) hc;have cf96:=Ag (((((hz10.t hz11).t hz12).t hz13).t hz14).t hz17) hcc
       go_wp2_with fail
       rw [← HWC.out];clear gr0 cf91 cf92 cf93 cf94 cf95 cf96;have cc:=blk12 HRC.out;refine bodyPost_ret (by simp [results,Tryz.results49,go_sem,cc] <;> rfl) rfl ?_;rw [HE.out];exact⟨_,_,rfl,Az HOW.out (fun b hb=>⟨by have h1:=hb.1;have h3:=hs1;omega,by have h2:=hb.2;omega⟩),HXX.out⟩
      have HE:=Ac (HF.out.trans (by rw [bso,bin]))
      go_wp2_with fail
      refine(s_l28No (7) x _ _ _ (r0.ext ((((((((((hx0.t hz1).t hz3).t hz5).t hz7).t hx).t hz10).t hz11).t hz12).t hz13).t hz14)) (r1.ext ((((((((((hx0.t hz1).t hz3).t hz5).t hz7).t hx).t hz10).t hz11).t hz12).t hz13).t hz14)) hl).mono ?_;rintro e w18 ⟨u0,u1,rfl,oo,hz18⟩;obtain⟨oa,ca,rfl,_⟩:=(As oo).shape;obtain⟨ob,cb,rfl,_⟩:=(At oo).shape;have hs1:w.heap.size+1+1+1≤w14.heap.size:=by simpa using (((((((((hz1.t hz3).t hz5).t hz7).t hx).t hz10).t hz11).t hz12).t hz13).t hz14).size
      have OX:=Ac oo;clear oo;have hR:=Aa ((((((((((hz1.t hz3).t hz5).t hz7).t hx).t hz10).t hz11).t hz12).t hz13).t hz14).t hz18) HB0.out.2.2;obtain⟨wc,hwc,hrc,hcc,hsc⟩:=vd_set hR (.int .i64 (7)) (.int .i64 0) (.int .i64 x.kind) (.int .i64 x.src) (.int .i64 x.dst) ((.slice oa x.path.parts.length ca)) (.int .i64 x.pi) (.int .i64 x.hi) (.int .i64 x.beta) (.int .i64 x.rid) (.int .i64 x.seq) ((.slice ob x.pay.length cb));have HOW:=Ac (An OX.out hcc (fun b hb e=>by have h1:=hb.1;have h2:=hb.2;have h3:=hs1;((try simp at h1) <;> omega)));have HXX:=Ac ((((((((((((hx0.t hz1).t hz3).t hz5).t hz7).t hx).t hz10).t hz11).t hz12).t hz13).t hz14).t hz18).chg1 hcc (by omega));have HWC:=Ac hwc;have HRC:=Ac hrc;have hsz2:w18.heap.size=wc.heap.size:=by rw [hsc]
      have gr0:=fr12 hR;clear hR hwc hrc hcc hsc
      try clear cf85
      try clear cf86
      try clear cf87
      try clear cf88
      try clear cf89
      try clear cf90
      have cf97:=blk2 (Aa ((((((((((hz1.t hz3).t hz5).t hz7).t hx).t hz10).t hz11).t hz12).t hz13).t hz14).t hz18) HB0.out.1);have cf98:=blk10 (Aa ((((((((((hz1.t hz3).t hz5).t hz7).t hx).t hz10).t hz11).t hz12).t hz13).t hz14).t hz18) HB0.out.2.1);have cf99:=blk12 (Aa ((((((((((hz1.t hz3).t hz5).t hz7).t hx).t hz10).t hz11).t hz12).t hz13).t hz14).t hz18) HB0.out.2.2);have cf100:=blk10 (Aa (((((hz10.t hz11).t hz12).t hz13).t hz14).t hz18) HGB.out);have cf101:=Ag (((((((((((hx0.t hz1).t hz3).t hz5).t hz7).t hx).t hz10).t hz11).t hz12).t hz13).t hz14).t hz18) hc;have cf102:=Ag (((((hz10.t hz11).t hz12).t hz13).t hz14).t hz18) hcc
      go_wp2_with fail
      rw [← HWC.out];clear gr0 cf97 cf98 cf99 cf100 cf101 cf102;have cc:=blk12 HRC.out;refine bodyPost_ret (by simp [results,Tryz.results49,go_sem,cc] <;> rfl) rfl ?_;rw [HE.out];exact⟨_,_,rfl,Az HOW.out (fun b hb=>⟨by have h1:=hb.1;have h3:=hs1;omega,by have h2:=hb.2;omega⟩),HXX.out⟩
     cases bal:atLast z
     ·
      have bl2:(z.hi == ((curPart z).hops.length:Int) - 1)=true:=bl
      have bl3:decide (z.pi<(z.path.parts.length:Int) - 1)=true:=by
       have h:=bal;unfold atLast at h;rw [bl,decide_eq_true (show 0≤curAs z by omega)] at h;have h2:(z.pi == (z.path.parts.length:Int) - 1)=false:=by simpa using h
       first | (rw [beq_eq_false_iff_ne] at h2;exact decide_eq_true (by omega)) | (rw [beq_iff_eq] at h2;exact decide_eq_false (by omega))
      have cf103:=blk2 (Aa ((((hz1.t hz3).t hz5).t hz7).t hx) HB0.out.1);have cf104:=blk10 (Aa ((((hz1.t hz3).t hz5).t hz7).t hx) HB0.out.2.1);have cf105:=blk12 (Aa ((((hz1.t hz3).t hz5).t hz7).t hx) HB0.out.2.2);have cf106:=blk10 HGB.out;have cf107:=Ag (((((hx0.t hz1).t hz3).t hz5).t hz7).t hx) hc
      go_wp2_with fail
      refine Al (by kernel_rfl) (by kernel_rfl) ?_;have q0:=Br cf103;have q2:=Bp cf104;have q12:=ExtW.c12 cf105;have q24:=Bp cf106;have q34:=Bm cf107;have q38:=Bm hcc
      repeat (first | go_big_quiet_step ((fail)) | quiet_step ((fail)))
      refine wpQuiet_nil ?_;intro w19 hw19;have hz19:=Bc hw19;clear hw19 q0 q2 q12 q24 q34 q38;clear hw1 hw2 bl2 bl3
      obtain⟨fg,hfg⟩:∃ fg,gk=fg+1:=⟨gk - 1,by rw [HZP.out] at z2;rw [HZI.out] at z2;omega⟩
      have HGS:=Ac (HGO.out fg bl bal);have hap:=adv_pi (show ¬ curAs z<0 by omega) bal bl;have HAP:=Ac ((adv_path z).trans HZP.out);have HAS:=Ac ((adv_size z).trans HZS.out);have hla:(advance z).size≤1048576:=by rw [HAS.out];exact hl
      have hN2:x.path.parts.length≤fg+(advance z).pi.toNat:=by rw [hap,HZI.out];omega
      have HN2:=Ac hN2;clear hN2 hap;have HFG:=Ac hfg;clear hfg
      try clear cf103
      try clear cf104
      try clear cf105
      try clear cf106
      try clear cf107
      have cf108:=blk2 (Aa (((((hz1.t hz3).t hz5).t hz7).t hx).t hz19) HB0.out.1);have cf109:=blk10 (Aa (((((hz1.t hz3).t hz5).t hz7).t hx).t hz19) HB0.out.2.1);have cf110:=blk12 (Aa (((((hz1.t hz3).t hz5).t hz7).t hx).t hz19) HB0.out.2.2);have cf111:=blk10 (Aa hz19 HGB.out);have cf112:=Ag ((((((hx0.t hz1).t hz3).t hz5).t hz7).t hx).t hz19) hc;have cf113:=Ag hz19 hcc
      go_wp2_with fail
      refine Ax (.blk [0,1,2] (.one 3 (.one 4 (.blk [5,6,7] (.one 8 (.blk [9] .done)))))) [8] (by kernel_rfl) (by kernel_rfl) ?_
      try clear cf108
      try clear cf109
      try clear cf110
      try clear cf111
      try clear cf112
      try clear cf113
      have cf114:=blk2 (Aa ((((((hz1.t hz3).t hz5).t hz7).t hx).t hz19).t ((Ab _).drew)) HB0.out.1);have cf115:=blk10 (Aa ((((((hz1.t hz3).t hz5).t hz7).t hx).t hz19).t ((Ab _).drew)) HB0.out.2.1);have cf116:=blk12 (Aa ((((((hz1.t hz3).t hz5).t hz7).t hx).t hz19).t ((Ab _).drew)) HB0.out.2.2);have cf117:=blk10 (Aa (hz19.t ((Ab _).drew)) HGB.out);have cf118:=Ag (((((((hx0.t hz1).t hz3).t hz5).t hz7).t hx).t hz19).t ((Ab _).drew)) hc;have cf119:=Ag (hz19.t ((Ab _).drew)) hcc;refine blkStep (fun K HK=>?_);simp only [PK]
      go_wp2_with fail
      refine HK.out _ _ ?_;clear HK K;refine oneStep (fun K HK=>?_);simp only [PK]
      go_wp2_with fail
      refine(s_AdvanceHop z _ _ _ (rz0.ext (hz19.t ((Ab _).drew))) (rz1.ext (hz19.t ((Ab _).drew))) hlz).mono ?_;rintro e w20 ⟨b0,b1,rfl,oa,hz20⟩;obtain⟨ob0,cb0,rfl,_⟩:=(As oa).shape;obtain⟨ob1,cb1,rfl,_⟩:=(At oa).shape
      try clear cf114
      try clear cf115
      try clear cf116
      try clear cf117
      try clear cf118
      try clear cf119
      have cf120:=blk2 (Aa (((((((hz1.t hz3).t hz5).t hz7).t hx).t hz19).t ((Ab _).drew)).t hz20) HB0.out.1);have cf121:=blk10 (Aa (((((((hz1.t hz3).t hz5).t hz7).t hx).t hz19).t ((Ab _).drew)).t hz20) HB0.out.2.1);have cf122:=blk12 (Aa (((((((hz1.t hz3).t hz5).t hz7).t hx).t hz19).t ((Ab _).drew)).t hz20) HB0.out.2.2);have cf123:=blk10 (Aa ((hz19.t ((Ab _).drew)).t hz20) HGB.out);have cf124:=Ag ((((((((hx0.t hz1).t hz3).t hz5).t hz7).t hx).t hz19).t ((Ab _).drew)).t hz20) hc;have cf125:=Ag ((hz19.t ((Ab _).drew)).t hz20) hcc
      go_wp2_with fail
      refine HK.out _ _ hz20 ?_;clear HK K;refine oneStep (fun K HK=>?_);simp only [PK]
      go_wp2_with fail
      refine(s_l28Check t _ _ now (advance z) _ _ _ (ha.ext ((((((((hx0.t hz1).t hz3).t hz5).t hz7).t hx).t hz19).t ((Ab _).drew)).t hz20)) (hk.ext ((((((((hx0.t hz1).t hz3).t hz5).t hz7).t hx).t hz19).t ((Ab _).drew)).t hz20)) (As oa) (At oa) hla).mono ?_;rintro e w21 ⟨u0,u1,rfl,ou,hz21⟩;obtain⟨ou0,cu0,rfl,_⟩:=(As ou).shape;obtain⟨ou1,cu1,rfl,_⟩:=(At ou).shape
      try clear cf120
      try clear cf121
      try clear cf122
      try clear cf123
      try clear cf124
      try clear cf125
      have cf126:=blk2 (Aa ((((((((hz1.t hz3).t hz5).t hz7).t hx).t hz19).t ((Ab _).drew)).t hz20).t hz21) HB0.out.1);have cf127:=blk10 (Aa ((((((((hz1.t hz3).t hz5).t hz7).t hx).t hz19).t ((Ab _).drew)).t hz20).t hz21) HB0.out.2.1);have cf128:=blk12 (Aa ((((((((hz1.t hz3).t hz5).t hz7).t hx).t hz19).t ((Ab _).drew)).t hz20).t hz21) HB0.out.2.2);have cf129:=blk10 (Aa (((hz19.t ((Ab _).drew)).t hz20).t hz21) HGB.out);have cf130:=Ag (((((((((hx0.t hz1).t hz3).t hz5).t hz7).t hx).t hz19).t ((Ab _).drew)).t hz20).t hz21) hc;have cf131:=Ag (((hz19.t ((Ab _).drew)).t hz20).t hz21) hcc
      go_wp2_with fail
      refine HK.out _ _ hz21 ?_;clear HK K;refine blkStep (fun K HK=>?_);simp only [PK]
      go_wp2_with fail
      refine HK.out _ _ ?_;clear HK K;have hG:=Aa (((hz19.t ((Ab _).drew)).t hz20).t hz21) HGB.out;have hcg:=blk10 hG;have hfg0:=fr10 hG;obtain⟨wq,hwq,hbq,hcq,hsq⟩:=pk_set hG (.int .i64 (verCur t (advance z)).kind) (.int .i64 (verCur t (advance z)).src) (.int .i64 (verCur t (advance z)).dst) ((.slice ou0 (verCur t (advance z)).path.parts.length cu0)) (.int .i64 (verCur t (advance z)).pi) (.int .i64 (verCur t (advance z)).hi) (.int .i64 (verCur t (advance z)).beta) (.int .i64 (verCur t (advance z)).rid) (.int .i64 (verCur t (advance z)).seq) ((.slice ou1 (verCur t (advance z)).pay.length cu1));have HWQ:=Ac hwq;clear hwq hG;refine badStep (by kernel_rfl) (fun K HK=>?_);simp only [PK]
      go_wp2_with fail
      refine HK.out _ _ ?_;clear HK K;refine blkStep (fun K HK=>?_);simp only [PK]
      go_wp2_with fail
      refine HK.out _ _ ?_;clear HK K;refine Ap (by kernel_rfl) ?_;rw [← HWQ.out]
      go_wp2_with fail
      go_roundg fg
      case measure=>rw [HFG.out];exact Nat.lt_succ_self _
      case rel=>exact⟨advance z,rfl,⟨ou0,_,cu0,ou1,_,cu1,_,hbq,fun _=>An ou hcq (fun b (hb:rng _ _ b) (e:b=_)=>absurd hb.1 (by rw [e];exact Nat.not_le.2 (blk_lt (Aa ((hz19.t ((Ab _).drew)).t hz20) HGB.out)))),fun b hb=>⟨Ad (((hx.t hz19).t ((Ab _).drew)).t hz20).size hb.1,by rw [hsq];exact hb.2,(fun b (hb:rng _ _ b) (e:b=_)=>absurd hb.1 (by rw [e];exact Nat.not_le.2 (blk_lt (Aa ((hz19.t ((Ab _).drew)).t hz20) HGB.out)))) b hb⟩⟩,Ac (by rw [← HGS.out,← HFG.out];exact HRL.out),HAP,HAS,HN2.out,((((hx.t hz19).t ((Ab _).drew)).t hz20).t hz21).chg1 hcq hge⟩
     have bl2:(z.hi == ((curPart z).hops.length:Int) - 1)=true:=bl
     have bl3:decide (z.pi<(z.path.parts.length:Int) - 1)=false:=by
      have h:=bal;unfold atLast at h;rw [bl,decide_eq_true (show 0≤curAs z by omega)] at h;have h2:(z.pi == (z.path.parts.length:Int) - 1)=true:=by simpa using h
      first | (rw [beq_eq_false_iff_ne] at h2;exact decide_eq_true (by omega)) | (rw [beq_iff_eq] at h2;exact decide_eq_false (by omega))
     have cf132:=blk2 (Aa ((((hz1.t hz3).t hz5).t hz7).t hx) HB0.out.1);have cf133:=blk10 (Aa ((((hz1.t hz3).t hz5).t hz7).t hx) HB0.out.2.1);have cf134:=blk12 (Aa ((((hz1.t hz3).t hz5).t hz7).t hx) HB0.out.2.2);have cf135:=blk10 HGB.out;have cf136:=Ag (((((hx0.t hz1).t hz3).t hz5).t hz7).t hx) hc
     go_wp2_with fail
     refine Al (by kernel_rfl) (by kernel_rfl) ?_;have q0:=Br cf132;have q2:=Bp cf133;have q12:=ExtW.c12 cf134;have q24:=Bp cf135;have q34:=Bm cf136;have q38:=Bm hcc
     repeat (first | go_big_quiet_step ((fail)) | quiet_step ((fail)))
     refine wpQuiet_nil ?_;intro w22 hw22;have hz22:=Bc hw22;clear hw22 q0 q2 q12 q24 q34 q38;clear hw1 hw2 bl2 bl3;have HC:Hid (chkAll t now x.path.parts.length x=(0,z)):=Ac (HCH.out.2 ((HSTP.out (by rw [bal];simp)).trans (by rw [K0.out])));have HF:=Ac (fw_del (r:=r) (dead:=dead) (inn:=inn) HB.out HW.out HC.out bal)
     try clear cf132
     try clear cf133
     try clear cf134
     try clear cf135
     try clear cf136
     have cf137:=blk2 (Aa (((((hz1.t hz3).t hz5).t hz7).t hx).t hz22) HB0.out.1);have cf138:=blk10 (Aa (((((hz1.t hz3).t hz5).t hz7).t hx).t hz22) HB0.out.2.1);have cf139:=blk12 (Aa (((((hz1.t hz3).t hz5).t hz7).t hx).t hz22) HB0.out.2.2);have cf140:=blk10 (Aa hz22 HGB.out);have cf141:=Ag ((((((hx0.t hz1).t hz3).t hz5).t hz7).t hx).t hz22) hc;have cf142:=Ag hz22 hcc
     go_wp2_with fail
     refine(s_AtLastHop z _ _ _ (rz0.ext hz22)).mono ?_;rintro e w23 ⟨rfl,hz23⟩;rw [bal]
     cases bd:(z.dst == r)
     ·
      have bd':(z.dst != r)=true:=by simp only [bne,bd];rfl
      have HE:=Ac (HF.out.trans (by rw [bd]))
      try clear cf137
      try clear cf138
      try clear cf139
      try clear cf140
      try clear cf141
      try clear cf142
      have cf143:=blk2 (Aa ((((((hz1.t hz3).t hz5).t hz7).t hx).t hz22).t hz23) HB0.out.1);have cf144:=blk10 (Aa ((((((hz1.t hz3).t hz5).t hz7).t hx).t hz22).t hz23) HB0.out.2.1);have cf145:=blk12 (Aa ((((((hz1.t hz3).t hz5).t hz7).t hx).t hz22).t hz23) HB0.out.2.2);have cf146:=blk10 (Aa (hz22.t hz23) HGB.out);have cf147:=Ag (((((((hx0.t hz1).t hz3).t hz5).t hz7).t hx).t hz22).t hz23) hc;have cf148:=Ag (hz22.t hz23) hcc
      go_wp2_with fail
      refine(s_AtLastHop z _ _ _ (rz0.ext (hz22.t hz23))).mono ?_;rintro e w24 ⟨rfl,hz24⟩;rw [bal]
      try clear cf143
      try clear cf144
      try clear cf145
      try clear cf146
      try clear cf147
      try clear cf148
      have cf149:=blk2 (Aa (((((((hz1.t hz3).t hz5).t hz7).t hx).t hz22).t hz23).t hz24) HB0.out.1);have cf150:=blk10 (Aa (((((((hz1.t hz3).t hz5).t hz7).t hx).t hz22).t hz23).t hz24) HB0.out.2.1);have cf151:=blk12 (Aa (((((((hz1.t hz3).t hz5).t hz7).t hx).t hz22).t hz23).t hz24) HB0.out.2.2);have cf152:=blk10 (Aa ((hz22.t hz23).t hz24) HGB.out);have cf153:=Ag ((((((((hx0.t hz1).t hz3).t hz5).t hz7).t hx).t hz22).t hz23).t hz24) hc;have cf154:=Ag ((hz22.t hz23).t hz24) hcc
      go_wp2_with fail
      refine(s_l28No (2) x _ _ _ (r0.ext ((((((((hx0.t hz1).t hz3).t hz5).t hz7).t hx).t hz22).t hz23).t hz24)) (r1.ext ((((((((hx0.t hz1).t hz3).t hz5).t hz7).t hx).t hz22).t hz23).t hz24)) hl).mono ?_;rintro e w25 ⟨u0,u1,rfl,oo,hz25⟩;obtain⟨oa,ca,rfl,_⟩:=(As oo).shape;obtain⟨ob,cb,rfl,_⟩:=(At oo).shape;have hs1:w.heap.size+1+1+1≤w24.heap.size:=by simpa using (((((((hz1.t hz3).t hz5).t hz7).t hx).t hz22).t hz23).t hz24).size
      have OX:=Ac oo;clear oo;have hR:=Aa ((((((((hz1.t hz3).t hz5).t hz7).t hx).t hz22).t hz23).t hz24).t hz25) HB0.out.2.2;obtain⟨wc,hwc,hrc,hcc,hsc⟩:=vd_set hR (.int .i64 (2)) (.int .i64 0) (.int .i64 x.kind) (.int .i64 x.src) (.int .i64 x.dst) ((.slice oa x.path.parts.length ca)) (.int .i64 x.pi) (.int .i64 x.hi) (.int .i64 x.beta) (.int .i64 x.rid) (.int .i64 x.seq) ((.slice ob x.pay.length cb));have HOW:=Ac (An OX.out hcc (fun b hb e=>by have h1:=hb.1;have h2:=hb.2;have h3:=hs1;((try simp at h1) <;> omega)));have HXX:=Ac ((((((((((hx0.t hz1).t hz3).t hz5).t hz7).t hx).t hz22).t hz23).t hz24).t hz25).chg1 hcc (by omega));have HWC:=Ac hwc;have HRC:=Ac hrc;have hsz2:w25.heap.size=wc.heap.size:=by rw [hsc]
      have gr0:=fr12 hR;clear hR hwc hrc hcc hsc
      try clear cf149
      try clear cf150
      try clear cf151
      try clear cf152
      try clear cf153
      try clear cf154
      have cf155:=blk2 (Aa ((((((((hz1.t hz3).t hz5).t hz7).t hx).t hz22).t hz23).t hz24).t hz25) HB0.out.1);have cf156:=blk10 (Aa ((((((((hz1.t hz3).t hz5).t hz7).t hx).t hz22).t hz23).t hz24).t hz25) HB0.out.2.1);have cf157:=blk12 (Aa ((((((((hz1.t hz3).t hz5).t hz7).t hx).t hz22).t hz23).t hz24).t hz25) HB0.out.2.2);have cf158:=blk10 (Aa (((hz22.t hz23).t hz24).t hz25) HGB.out);have cf159:=Ag (((((((((hx0.t hz1).t hz3).t hz5).t hz7).t hx).t hz22).t hz23).t hz24).t hz25) hc;have cf160:=Ag (((hz22.t hz23).t hz24).t hz25) hcc
      go_wp2_with fail
      rw [← HWC.out];clear gr0 cf155 cf156 cf157 cf158 cf159 cf160;have cc:=blk12 HRC.out;refine bodyPost_ret (by simp [results,Tryz.results49,go_sem,cc] <;> rfl) rfl ?_;rw [HE.out];exact⟨_,_,rfl,Az HOW.out (fun b hb=>⟨by have h1:=hb.1;have h3:=hs1;omega,by have h2:=hb.2;omega⟩),HXX.out⟩
     have bd':(z.dst != r)=false:=by simp only [bne,bd];rfl
     have HE:=Ac (HF.out.trans (by rw [bd]));have hs1:w.heap.size+1+1+1≤w7.heap.size:=by simpa using (((hz1.t hz3).t hz5).t hz7).size
     have hs9:=(hz22.t hz23).size;have hR:=Aa ((((((hz1.t hz3).t hz5).t hz7).t hx).t hz22).t hz23) HB0.out.2.2;obtain⟨wc,hwc,hrc,hcc,hsc⟩:=vd_set hR (.int .i64 1) (.int .i64 0) (.int .i64 z.kind) (.int .i64 z.src) (.int .i64 z.dst) ((.slice (some ⟨bz,offz,none⟩) z.path.parts.length c0)) (.int .i64 z.pi) (.int .i64 z.hi) (.int .i64 z.beta) (.int .i64 z.rid) (.int .i64 z.seq) ((.slice o1 z.pay.length c1));have HOW:=Ac (An (Ba OZ.out (hz22.t hz23)) hcc (fun b hb e=>by have h1:=(hS b hb).1;have h3:=hs1;((try simp at e) <;> omega)));have HXX:=Ac ((((((((hx0.t hz1).t hz3).t hz5).t hz7).t hx).t hz22).t hz23).chg1 hcc (by omega));have HWC:=Ac hwc;have HRC:=Ac hrc;have hsz2:w23.heap.size=wc.heap.size:=by rw [hsc]
     have gr0:=fr12 hR;clear hR hwc hrc hcc hsc
     try clear cf137
     try clear cf138
     try clear cf139
     try clear cf140
     try clear cf141
     try clear cf142
     have cf161:=blk2 (Aa ((((((hz1.t hz3).t hz5).t hz7).t hx).t hz22).t hz23) HB0.out.1);have cf162:=blk10 (Aa ((((((hz1.t hz3).t hz5).t hz7).t hx).t hz22).t hz23) HB0.out.2.1);have cf163:=blk12 (Aa ((((((hz1.t hz3).t hz5).t hz7).t hx).t hz22).t hz23) HB0.out.2.2);have cf164:=blk10 (Aa (hz22.t hz23) HGB.out);have cf165:=Ag (((((((hx0.t hz1).t hz3).t hz5).t hz7).t hx).t hz22).t hz23) hc;have cf166:=Ag (hz22.t hz23) hcc
     go_wp2_with fail
     rw [← HWC.out];clear gr0 cf161 cf162 cf163 cf164 cf165 cf166;have cc:=blk12 HRC.out;refine bodyPost_ret (by simp [results,Tryz.results49,go_sem,cc] <;> rfl) rfl ?_;rw [HE.out];exact⟨_,_,rfl,Az HOW.out (fun b hb=>⟨by have h1:=(hS b hb).1;have h3:=hs1;omega,by have h2:=(hS b hb).2.1;omega⟩),HXX.out⟩
    have HC:Hid (chkAll t now x.path.parts.length x=(chkCode t now y,verCur t y)):=Ac (HRL.out.symm.trans (chk_stop (by simp [k0])));have HE:=Ac (fw_chk (r:=r) (dead:=dead) (inn:=inn) HB.out HW.out HC.out k0);generalize chkCode t now y=cd at *;have k1:(cd == 0)=false:=by rw [beq_eq_false_iff_ne];exact k0
    have k2:(cd != 0)=true:=by simp only [bne,k1];rfl
    have cf167:=blk2 (Aa ((((hz1.t hz3).t hz5).t hz7).t hx) HB0.out.1);have cf168:=blk10 (Aa ((((hz1.t hz3).t hz5).t hz7).t hx) HB0.out.2.1);have cf169:=blk12 (Aa ((((hz1.t hz3).t hz5).t hz7).t hx) HB0.out.2.2);have cf170:=blk10 HGB.out;have cf171:=Ag (((((hx0.t hz1).t hz3).t hz5).t hz7).t hx) hc
    go_wp2_with fail
    refine Al (by kernel_rfl) (by kernel_rfl) ?_;have q0:=Br cf167;have q2:=Bp cf168;have q12:=ExtW.c12 cf169;have q24:=Bp cf170;have q34:=Bm cf171
    repeat (first | go_big_quiet_step ((fail)) | quiet_step ((fail)))
    refine wpQuiet_nil ?_;intro w26 hw26;have hz26:=Bc hw26;clear hw26 q0 q2 q12 q24 q34
    try clear cf167
    try clear cf168
    try clear cf169
    try clear cf170
    try clear cf171
    have cf172:=blk2 (Aa (((((hz1.t hz3).t hz5).t hz7).t hx).t hz26) HB0.out.1);have cf173:=blk10 (Aa (((((hz1.t hz3).t hz5).t hz7).t hx).t hz26) HB0.out.2.1);have cf174:=blk12 (Aa (((((hz1.t hz3).t hz5).t hz7).t hx).t hz26) HB0.out.2.2);have cf175:=blk10 (Aa hz26 HGB.out);have cf176:=Ag ((((((hx0.t hz1).t hz3).t hz5).t hz7).t hx).t hz26) hc
    go_wp2_with fail
    refine(s_l28No (cd) x _ _ _ (r0.ext ((((((hx0.t hz1).t hz3).t hz5).t hz7).t hx).t hz26)) (r1.ext ((((((hx0.t hz1).t hz3).t hz5).t hz7).t hx).t hz26)) hl).mono ?_;rintro e w27 ⟨u0,u1,rfl,oo,hz27⟩;obtain⟨oa,ca,rfl,_⟩:=(As oo).shape;obtain⟨ob,cb,rfl,_⟩:=(At oo).shape;have hs1:w.heap.size+1+1+1≤w26.heap.size:=by simpa using (((((hz1.t hz3).t hz5).t hz7).t hx).t hz26).size
    have OX:=Ac oo;clear oo;have hR:=Aa ((((((hz1.t hz3).t hz5).t hz7).t hx).t hz26).t hz27) HB0.out.2.2;obtain⟨wc,hwc,hrc,hcc,hsc⟩:=vd_set hR (.int .i64 (cd)) (.int .i64 0) (.int .i64 x.kind) (.int .i64 x.src) (.int .i64 x.dst) ((.slice oa x.path.parts.length ca)) (.int .i64 x.pi) (.int .i64 x.hi) (.int .i64 x.beta) (.int .i64 x.rid) (.int .i64 x.seq) ((.slice ob x.pay.length cb));have HOW:=Ac (An OX.out hcc (fun b hb e=>by have h1:=hb.1;have h2:=hb.2;have h3:=hs1;((try simp at h1) <;> omega)));have HXX:=Ac ((((((((hx0.t hz1).t hz3).t hz5).t hz7).t hx).t hz26).t hz27).chg1 hcc (by omega));have HWC:=Ac hwc;have HRC:=Ac hrc;have hsz2:w27.heap.size=wc.heap.size:=by rw [hsc]
    have gr0:=fr12 hR;clear hR hwc hrc hcc hsc
    try clear cf172
    try clear cf173
    try clear cf174
    try clear cf175
    try clear cf176
    have cf177:=blk2 (Aa ((((((hz1.t hz3).t hz5).t hz7).t hx).t hz26).t hz27) HB0.out.1);have cf178:=blk10 (Aa ((((((hz1.t hz3).t hz5).t hz7).t hx).t hz26).t hz27) HB0.out.2.1);have cf179:=blk12 (Aa ((((((hz1.t hz3).t hz5).t hz7).t hx).t hz26).t hz27) HB0.out.2.2);have cf180:=blk10 (Aa (hz26.t hz27) HGB.out);have cf181:=Ag (((((((hx0.t hz1).t hz3).t hz5).t hz7).t hx).t hz26).t hz27) hc
    go_wp2_with fail
    rw [← HWC.out];clear gr0 cf177 cf178 cf179 cf180 cf181;have cc:=blk12 HRC.out;refine bodyPost_ret (by simp [results,Tryz.results49,go_sem,cc] <;> rfl) rfl ?_;rw [HE.out];exact⟨_,_,rfl,Az HOW.out (fun b hb=>⟨by have h1:=hb.1;have h3:=hs1;omega,by have h2:=hb.2;omega⟩),HXX.out⟩
end
end Go.Proofs.YteodlcpeoaggbaaGreat
