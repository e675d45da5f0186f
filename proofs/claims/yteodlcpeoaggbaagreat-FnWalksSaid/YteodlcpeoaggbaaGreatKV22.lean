/- What these laws need: FnOld, FnWalks: The contract of Forward, the program. What forwarding keeps of a packet, and its codes: plain laws. -/
import Derived.Test.YteodlcpeoaggbaaGreatKV21
namespace Go.Proofs.YteodlcpeoaggbaaGreat
section
open Go.ChangeShapes Go.WideShapes Go.ChangeAt Go.RowKit Go.Deep
set_option maxRecDepth 100000 in
set_option maxHeartbeats 16000000 in
theorem i_Forward (t:Topo) (va vk:Value) (r now dead inn:Int) (x:Pkt) (v0 v1:Value) (w:World) (ha:RdS ASd.rep w va t.ases) (hk:RdS Lnk.rep w vk t.links) (r0:RdS Part.rep w v0 x.path.parts) (r1:RdS Rep.byte w v1 x.pay) (hl:x.size≤1048576) :
  Calls Tryz.prog 42 #[.agg #[va,vk],.int .i64 r,.int .i64 now,.int .i64 dead,.int .i64 inn,.agg #[.int .i64 x.kind,.int .i64 x.src,.int .i64 x.dst,v0,.int .i64 x.pi,.int .i64 x.hi,.int .i64 x.beta,.int .i64 x.rid,.int .i64 x.seq,v1]] w fun e w'=>∃ u0 u1,e=.returned (.agg #[.int .i64 (forward t r now dead inn x).code,.int .i64 (forward t r now dead inn x).eg,.int .i64 (forward t r now dead inn x).pkt.kind,.int .i64 (forward t r now dead inn x).pkt.src,.int .i64 (forward t r now dead inn x).pkt.dst,u0,.int .i64 (forward t r now dead inn x).pkt.pi,.int .i64 (forward t r now dead inn x).pkt.hi,.int .i64 (forward t r now dead inn x).pkt.beta,.int .i64 (forward t r now dead inn x).pkt.rid,.int .i64 (forward t r now dead inn x).pkt.seq,u1])∧Pkt.own (rng w.heap.size w'.heap.size) w' u0 u1 (forward t r now dead inn x).pkt∧Ext w w':=by
 obtain⟨o,cap,rfl,hsm⟩:=r0.shape;obtain⟨oy,cy,rfl,hsy⟩:=r1.shape;obtain⟨hx0,HB0⟩:=ea3 w (.cells #[va,vk] 27) (.cells #[.int .i64 x.kind,.int .i64 x.src,.int .i64 x.dst,.slice o x.path.parts.length cap,.int .i64 x.pi,.int .i64 x.hi,.int .i64 x.beta,.int .i64 x.rid,.int .i64 x.seq,.slice oy x.pay.length cy] 35) (.cells #[.int .i64 0,.int .i64 0,.int .i64 0,.int .i64 0,.int .i64 0,.slice none 0 0,.int .i64 0,.int .i64 0,.int .i64 0,.int .i64 0,.int .i64 0,.slice none 0 0] 76);replace HB0:=Ac HB0
 go_enter Tryz.func42,Tryz.ntmps42
 have cf1:=blk2 HB0.out.1;have cf2:=blk10 HB0.out.2.1;have cf3:=blk12 HB0.out.2.2
 go_wp2_with fail
 refine(i_decide t _ _ r now dead inn x _ _ _ (ha.ext hx0) (hk.ext hx0) (r0.ext hx0) (r1.ext hx0) hl).mono ?_;rintro e w1 ⟨u0,u1,out,rfl,oo,hz1⟩;generalize hv:(forward t r now dead inn x)=v at *;have HV:=Ac hv;clear hv;obtain⟨o1,c1,rfl,_⟩:=(As oo).shape;obtain⟨o2,c2,rfl,_⟩:=(At oo).shape;have hs1:w.heap.size+1+1+1≤w1.heap.size:=by simpa using hz1.size
 have OO:=Ac oo;clear oo
 try clear cf1
 try clear cf2
 try clear cf3
 have cf4:=blk2 (Aa hz1 HB0.out.1);have cf5:=blk10 (Aa hz1 HB0.out.2.1);have cf6:=blk12 (Aa hz1 HB0.out.2.2);obtain⟨hx1,HB1⟩:=ea1 w1 (.cells #[.int .i64 v.code,.int .i64 v.eg,.int .i64 v.pkt.kind,.int .i64 v.pkt.src,.int .i64 v.pkt.dst,(.slice o1 v.pkt.path.parts.length c1),.int .i64 v.pkt.pi,.int .i64 v.pkt.hi,.int .i64 v.pkt.beta,.int .i64 v.pkt.rid,.int .i64 v.pkt.seq,(.slice o2 v.pkt.pay.length c2)] 76);replace HB1:=Ac HB1;have hsz:=hx1.size;have hso:w1.heap.size<(w1.alloc (.cells #[.int .i64 v.code,.int .i64 v.eg,.int .i64 v.pkt.kind,.int .i64 v.pkt.src,.int .i64 v.pkt.dst,(.slice o1 v.pkt.path.parts.length c1),.int .i64 v.pkt.pi,.int .i64 v.pkt.hi,.int .i64 v.pkt.beta,.int .i64 v.pkt.rid,.int .i64 v.pkt.seq,(.slice o2 v.pkt.pay.length c2)] 76)).heap.size:=blk_lt HB1.out;have hR:=Aa (hz1.t hx1) HB0.out.2.2;obtain⟨wc,hwc,hrc,hcc,hsc⟩:=vd_set hR (.int .i64 v.code) (.int .i64 v.eg) (.int .i64 v.pkt.kind) (.int .i64 v.pkt.src) (.int .i64 v.pkt.dst) ((.slice o1 v.pkt.path.parts.length c1)) (.int .i64 v.pkt.pi) (.int .i64 v.pkt.hi) (.int .i64 v.pkt.beta) (.int .i64 v.pkt.rid) (.int .i64 v.pkt.seq) ((.slice o2 v.pkt.pay.length c2));have HOW:=Ac (An (Ba OO.out hx1) hcc (fun b hb e=>by have h1:=hb.1;have h2:=hb.2;simp at h1;omega));have HXX:=Ac (((hx0.t hz1).t hx1).chg1 hcc (by omega));have HWC:=Ac hwc
 have HRC:=Ac hrc;have hsz2:(w1.alloc (.cells #[.int .i64 v.code,.int .i64 v.eg,.int .i64 v.pkt.kind,.int .i64 v.pkt.src,.int .i64 v.pkt.dst,(.slice o1 v.pkt.path.parts.length c1),.int .i64 v.pkt.pi,.int .i64 v.pkt.hi,.int .i64 v.pkt.beta,.int .i64 v.pkt.rid,.int .i64 v.pkt.seq,(.slice o2 v.pkt.pay.length c2)] 76)).heap.size=wc.heap.size:=by rw [hsc]
 have gr0:=fr12 hR;clear hR hwc hrc hcc hsc;have cf7:=blk2 (Aa (hz1.t hx1) HB0.out.1);have cf8:=blk10 (Aa (hz1.t hx1) HB0.out.2.1);have cf9:=blk12 (Aa (hz1.t hx1) HB0.out.2.2);have cf10:=blk12 HB1.out
 go_wp2_with fail
 rw [← HWC.out];clear gr0 cf7 cf8 cf9 cf10;have cc:=blk12 HRC.out;refine bodyPost_ret (by simp [results,Tryz.results42,go_sem,cc] <;> rfl) rfl ?_;rw [HV.out];exact⟨_,_,rfl,Az HOW.out (fun b hb=>⟨by have h1:=hb.1;simp at h1;omega,by have h2:=hb.2;omega⟩),HXX.out⟩
theorem fw_adv_pay (x:Pkt):(advance x).pay=x.pay:=by unfold advance;split;rfl;split <;> rfl
theorem fw_ver_pay (t:Topo) (x:Pkt):(verCur t x).pay=x.pay:=by unfold verCur;split <;> rfl
theorem fw_chkAll (t:Topo) (now:Int):∀ (f:Nat) (x:Pkt),(chkAll t now f x).2.path=x.path∧(chkAll t now f x).2.pay=x.pay
 | 0, x => ⟨verCur_path t x, fw_ver_pay t x⟩
 | f + 1, x => by
  unfold chkAll
  split
  ·
   have h:=fw_chkAll t now f (advance (verCur t x));rw [h.1,h.2,adv_path,fw_adv_pay];exact⟨verCur_path t x,fw_ver_pay t x⟩
  exact⟨verCur_path t x,fw_ver_pay t x⟩
theorem fw_pp (t:Topo) (r now dead inn:Int) (x:Pkt):(forward t r now dead inn x).pkt.path=x.path∧(forward t r now dead inn x).pkt.pay=x.pay:=by
 have h:=fw_chkAll t now x.path.parts.length x;unfold forward;simp only
 repeat' split
 all_goals first | exact⟨rfl,rfl⟩ | exact h | exact⟨(adv_path _).trans h.1,(fw_adv_pay _).trans h.2⟩
theorem fw_size (t:Topo) (r now dead inn:Int) (x:Pkt):(forward t r now dead inn x).pkt.size=x.size:=by
 have h:=fw_pp t r now dead inn x;unfold Pkt.size;rw [h.1,h.2]
theorem fw_chk_nn (t:Topo) (now:Int) (x:Pkt):0≤chkCode t now x:=by unfold chkCode;split;split;all_goals omega
theorem fw_all_nn (t:Topo) (now:Int):∀ (f:Nat) (x:Pkt),0≤(chkAll t now f x).1
 | 0, x => fw_chk_nn t now x
 | f + 1, x => by
  unfold chkAll
  split
  ·
   exact fw_all_nn t now f _
  exact fw_chk_nn t now x
theorem fw_nn (t:Topo) (r now dead inn:Int) (x:Pkt):0≤(forward t r now dead inn x).code:=by
 have h:=fw_all_nn t now x.path.parts.length x;unfold forward;simp only
 repeat' split
 all_goals first | exact h | (dsimp only;omega)
end
end Go.Proofs.YteodlcpeoaggbaaGreat
