/- What these laws need: FnOld, FnWalks: Contracts of the walk of a packet, program and reference. -/
import Derived.Test.YteodlcpeoaggbaaGreatKV22
namespace Go.Proofs.YteodlcpeoaggbaaGreat
section
open Go.ChangeShapes Go.WideShapes Go.ChangeAt Go.RowKit Go.Deep
set_option maxRecDepth 100000
set_option maxHeartbeats 40000000
def TSt (lo lo1 g:Nat) (code:Int) (l:List Step) (x:Pkt) (w:World):Prop:=
 ∃ (os:Option Addr) (cs:Nat) (o0:Option Addr) (n0 c0:Nat) (o1:Option Addr) (n1 c1:Nat) (S:Nat→Prop),w.heap[g]?=some (.cells #[.int .i64 code,.slice os l.length cs,.int .i64 x.kind,.int .i64 x.src,.int .i64 x.dst,.slice o0 n0 c0,.int .i64 x.pi,.int .i64 x.hi,.int .i64 x.beta,.int .i64 x.rid,.int .i64 x.seq,.slice o1 n1 c1] 40) ∧
  OwnF Step.f 3 lo1 79 w (.slice os l.length cs) l∧Pkt.own S w (.slice o0 n0 c0) (.slice o1 n1 c1) x∧∀ b,S b→lo≤b∧b<w.heap.size∧b≠g∧(Value.slice os l.length cs).ownBlock≠some b
def VSt (lo g:Nat) (cd eg:Int) (x:Pkt) (w:World):Prop:=
 ∃ (o0:Option Addr) (n0 c0:Nat) (o1:Option Addr) (n1 c1:Nat) (S:Nat→Prop),w.heap[g]?=some (.cells #[.int .i64 cd,.int .i64 eg,.int .i64 x.kind,.int .i64 x.src,.int .i64 x.dst,.slice o0 n0 c0,.int .i64 x.pi,.int .i64 x.hi,.int .i64 x.beta,.int .i64 x.rid,.int .i64 x.seq,.slice o1 n1 c1] 76)∧Pkt.own S w (.slice o0 n0 c0) (.slice o1 n1 c1) x∧∀ b,S b→lo≤b∧b<w.heap.size∧b≠g
theorem Trc.own_of {lo:Nat} {S:Nat→Prop} {w:World} {h0 h1 h2:Value} {cd:Int} {l:List Step} {z:Pkt} {lo1:Nat} (a:OwnF Step.f 3 lo1 79 w h0 l) (b:Pkt.own S w h1 h2 z) (hlo:lo≤lo1) (hS:∀ b,S b→lo≤b∧b<w.heap.size∧h0.ownBlock≠some b):Trc.own (rng lo w.heap.size) w h0 h1 h2 ⟨cd,l,z⟩:=
 ⟨fun b=>h0.ownBlock=some b,S,⟨a.to0,fun _ h=>h⟩,b,fun b hb=>⟨Ad hlo (a.block b hb).1,(a.block b hb).2⟩,fun b hb=>⟨(hS b hb).1,(hS b hb).2.1⟩,fun b hb h2=>(hS b h2).2.2 hb⟩
theorem tr_set {w:World} {b:Nat} {x0 x1 x2 x3 x4 x5 x6 x7 x8 x9 x10 x11:Value} {t:TypeId} (h:w.heap[b]?=some (.cells #[x0,x1,x2,x3,x4,x5,x6,x7,x8,x9,x10,x11] t (0,0))) (y0 y2 y3 y4 y5 y6 y7 y8 y9 y10 y11:Value) :
  ∃ w5,w5=(((((((((((w.setCell ⟨b,0,none⟩ y0).setCell ⟨b,2,none⟩ y2).setCell ⟨b,3,none⟩ y3).setCell ⟨b,4,none⟩ y4).setCell ⟨b,5,none⟩ y5).setCell ⟨b,6,none⟩ y6).setCell ⟨b,7,none⟩ y7).setCell ⟨b,8,none⟩ y8).setCell ⟨b,9,none⟩ y9).setCell ⟨b,10,none⟩ y10).setCell ⟨b,11,none⟩ y11)∧w5.heap[b]?=some (.cells #[y0,x1,y2,y3,y4,y5,y6,y7,y8,y9,y10,y11] t (0,0))∧Chg (fun i=>i=b) w w5∧w5.heap.size=w.heap.size:=by
 refine⟨_,rfl,by simpa using (blk_set (blk_set (blk_set (blk_set (blk_set (blk_set (blk_set (blk_set (blk_set (blk_set (blk_set h 0 y0) 2 y2) 3 y3) 4 y4) 5 y5) 6 y6) 7 y7) 8 y8) 9 y9) 10 y10) 11 y11),?_,by simp⟩;have q (o:Nat) (u:Value) {wq:World} (h:Chg (fun i=>i=b) w wq):=Chg.setCell (p:=⟨b,o,none⟩) h rfl u;exact q _ _ (q _ _ (q _ _ (q _ _ (q _ _ (q _ _ (q _ _ (q _ _ (q _ _ (q _ _ (q _ _ (Bq _ w)))))))))))
theorem i_Traverse (t:Topo) (va vk:Value) (now:Int) (dead:List Int) (vd:Value) (x:Pkt) (v0 v1:Value) (w:World) (ha:RdS ASd.rep w va t.ases) (hk:RdS Lnk.rep w vk t.links) (hd:RdS Rep.int w vd dead) (r0:RdS Part.rep w v0 x.path.parts) (r1:RdS Rep.byte w v1 x.pay) (ht:t.size≤1048576) (hl:x.size≤1048576) :
  Calls Tryz.prog 8 #[.agg #[va,vk],.int .i64 now,vd,.agg #[.int .i64 x.kind,.int .i64 x.src,.int .i64 x.dst,v0,.int .i64 x.pi,.int .i64 x.hi,.int .i64 x.beta,.int .i64 x.rid,.int .i64 x.seq,v1]] w fun e w'=>∃ u0 u1 u2,e=.returned (.agg #[.int .i64 (traverse t now dead x).code,u0,.int .i64 (traverse t now dead x).pkt.kind,.int .i64 (traverse t now dead x).pkt.src,.int .i64 (traverse t now dead x).pkt.dst,u1,.int .i64 (traverse t now dead x).pkt.pi,.int .i64 (traverse t now dead x).pkt.hi,.int .i64 (traverse t now dead x).pkt.beta,.int .i64 (traverse t now dead x).pkt.rid,.int .i64 (traverse t now dead x).pkt.seq,u2])∧Trc.own (rng w.heap.size w'.heap.size) w' u0 u1 u2 (traverse t now dead x)∧Ext w w':=by
 obtain⟨o,cap,rfl,hsm⟩:=r0.shape;obtain⟨oy,cy,rfl,hsy⟩:=r1.shape;obtain⟨od,cdd,rfl,_⟩:=hd.shape;obtain⟨E⟩:=elemStep;obtain⟨hx0,HB0⟩:=ea3 w (.cells #[va,vk] 27) (.cells #[.int .i64 x.kind,.int .i64 x.src,.int .i64 x.dst,.slice o x.path.parts.length cap,.int .i64 x.pi,.int .i64 x.hi,.int .i64 x.beta,.int .i64 x.rid,.int .i64 x.seq,.slice oy x.pay.length cy] 35) (.cells #[.int .i64 0,.slice none 0 0,.int .i64 0,.int .i64 0,.int .i64 0,.slice none 0 0,.int .i64 0,.int .i64 0,.int .i64 0,.int .i64 0,.int .i64 0,.slice none 0 0] 40);replace HB0:=Ac HB0
 go_enter Tryz.func8,Tryz.ntmps8
 have cf1:=blk2 HB0.out.1;have cf2:=blk10 HB0.out.2.1;have cf3:=blk12 HB0.out.2.2
 go_wp2_with fail
 refine(i_copyPacket x _ _ _ (r0.ext hx0) (r1.ext hx0) hl).mono ?_;rintro e w1 ⟨u0,u1,rfl,ou,hz1⟩;obtain⟨p0,d0,rfl,_⟩:=(As ou).shape;obtain⟨p1,d1,rfl,_⟩:=(At ou).shape;have hs1:(w.heap.size+1+1+1)≤w1.heap.size:=by simpa using hz1.size
 obtain⟨g,hgw⟩:∃ g:Nat,g=w1.heap.size:=⟨_,rfl⟩
 have hxc:=(Ab w1).alloc (.cells #[.int .i64 0,.slice none 0 0,.int .i64 x.kind,.int .i64 x.src,.int .i64 x.dst,.slice p0 x.path.parts.length d0,.int .i64 x.pi,.int .i64 x.hi,.int .i64 x.beta,.int .i64 x.rid,.int .i64 x.seq,.slice p1 x.pay.length d1] 40);have hge:w1.heap.size≤g:=by rw [hgw];exact Ae _
 have HST0:Hid (TSt (w.heap.size+1+1+1) w1.heap.size g 0 [] x (w1.alloc (.cells #[.int .i64 0,.slice none 0 0,.int .i64 x.kind,.int .i64 x.src,.int .i64 x.dst,.slice p0 x.path.parts.length d0,.int .i64 x.pi,.int .i64 x.hi,.int .i64 x.beta,.int .i64 x.rid,.int .i64 x.seq,.slice p1 x.pay.length d1] 40))):=by
  rw [hgw];exact Ac ⟨none,0,_,_,_,_,_,_,_,blk_new _ _,OwnF.nil _ _ _ _ _,Ba ou ((Ab _).alloc _),fun b hb=>⟨by have h1:=hb.1;simp at h1;omega,Ak hb.2 ((Ab _).alloc _).size,(fun e=>by rw [e] at hb;exact absurd hb.2 (Nat.lt_irrefl _)),by simp [Value.ownBlock]⟩⟩
 clear ou
 try clear cf1
 try clear cf2
 try clear cf3
 have cf4:=blk2 (Aa hz1 HB0.out.1);have cf5:=blk10 (Aa hz1 HB0.out.2.1);have cf6:=blk12 (Aa hz1 HB0.out.2.2)
 go_wp2_with fail
 rw [← hgw];clear hgw
 try clear cf4
 try clear cf5
 try clear cf6
 go_loopg [9,10,12] 30 (fun gk ar ai ak wr=>∃ (rv iv:Int) (k:Nat) (y:Pkt) (l:List Step),ar=.int .i64 rv∧ai=.int .i64 iv∧ak=.int .i64 k∧gk+k=31∧1≤k∧k≤30∧Hid (trav t now dead gk rv iv y l=(traverse t now dead x))∧Hid (y.size=x.size)∧l.length≤k∧TSt (w.heap.size+1+1+1) w1.heap.size g 0 l y wr∧Ext w1 wr)
 case atStart=>exact⟨x.src,0,1,x,[],rfl,rfl,rfl,rfl,by omega,by omega,Ac rfl,Ac rfl,Nat.zero_le _,HST0.out,hxc⟩
 case round=>
  clear HST0 hxc;obtain⟨rv,iv,k,y,l,rfl,rfl,rfl,hn0,hn1,hn2,HTR,HYS,hll,hst,hx⟩:=hrel;obtain⟨os,cs,o0,n0,c0,o1,n1,c1,S0,hg,hos,hown,hS⟩:=hst;have HGB:=Ac hg;clear hg;have hly:y.size≤1048576:=by rw [HYS.out];exact hl
  obtain⟨f0,hf0⟩:∃ f0,gk=f0+1:=⟨gk - 1,by omega⟩
  have HF:=Ac hf0;clear hf0;have rz0:=As hown;have rz1:=At hown
  obtain⟨v,hv⟩:∃ v,forward t rv now (failedIfs t dead rv) iv y=v:=⟨_,rfl⟩
  obtain⟨cd,eg,z⟩:=v;have HV:=Ac hv;have HCD:Hid ((forward t rv now (failedIfs t dead rv) iv y).code=cd):=Ac (by rw [hv]);have HEG:Hid ((forward t rv now (failedIfs t dead rv) iv y).eg=eg):=Ac (by rw [hv]);have HZ:Hid ((forward t rv now (failedIfs t dead rv) iv y).pkt=z):=Ac (by rw [hv]);have HZS:Hid (z.size=x.size):=Ac (by rw [← HZ.out,fw_size];exact HYS.out);have HNN:Hid (0≤cd):=Ac (by rw [← HCD.out];exact fw_nn _ _ _ _ _ _);clear hv;have cf7:=blk2 (Aa (hz1.t hx) HB0.out.1);have cf8:=blk10 (Aa (hz1.t hx) HB0.out.2.1);have cf9:=blk12 (Aa (hz1.t hx) HB0.out.2.2);have cf10:=blk12 HGB.out
  go_upto_region 5 with (fail)
  go_cut [13] (fun v13 wx=>∃ gv:Nat,v13=.pointer (some ⟨gv,0,none⟩)∧VSt wr.heap.size gv cd eg z wx∧wr.heap.size≤gv∧Ext wr wx)
  case first=>
   refine Ax (.blk [0,1,2,3,4,5,7,8,9] (.two 6 11 (.two 10 11 (.one 11 (.one 12 .done)) (.one 10 (.one 12 .done))) (.one 6 (.one 10 (.one 12 .done))))) [12] (by kernel_rfl) (by kernel_rfl) ?_;refine blkStep (fun K HK=>?_);simp only [PK]
   go_wp2_with fail
   refine HK.out _ _ ?_;clear HK K;refine twoStep ?_ ?_
   ·
    refine oneStep (fun K HK=>?_);simp only [PK]
    go_wp2_with fail
    refine(i_FailedInterfaces t _ _ dead _ rv _ (ha.ext (((hx0.t hz1).t hx).trans (Ab _).drew)) (hk.ext (((hx0.t hz1).t hx).trans (Ab _).drew)) (hd.ext (((hx0.t hz1).t hx).trans (Ab _).drew)) ht).mono ?_;rintro e wk0 ⟨rfl,hk0⟩;have hcc1:=blk2 (Aa ((hz1.t hx).trans ((Ab _).drew.trans hk0)) HB0.out.1);have hcc2:=blk10 (Aa ((hz1.t hx).trans ((Ab _).drew.trans hk0)) HB0.out.2.1);have hcc3:=blk12 (Aa ((hz1.t hx).trans ((Ab _).drew.trans hk0)) HB0.out.2.2);have hcc4:=blk12 (Aa ((Ab _).trans ((Ab _).drew.trans hk0)) HGB.out)
    go_wp2_with fail
    refine HK.out _ _ hk0 ?_;clear HK K;refine twoStep ?_ ?_
    ·
     refine oneStep (fun K HK=>?_);simp only [PK]
     go_wp2_with fail
     refine(i_Forward t _ _ rv now (failedIfs t dead rv) iv y _ _ _ (ha.ext (((hx0.t hz1).t hx).trans ((Ab _).drew.trans hk0))) (hk.ext (((hx0.t hz1).t hx).trans ((Ab _).drew.trans hk0))) (rz0.ext ((Ab _).drew.trans hk0)) (rz1.ext ((Ab _).drew.trans hk0)) hly).mono ?_;rintro e wk1 ⟨u0,u1,rfl,ou,hk1⟩;rw [HCD.out,HEG.out,HZ.out];rw [HZ.out] at ou;obtain⟨p0,d0,rfl,_⟩:=(As ou).shape;obtain⟨p1,d1,rfl,_⟩:=(At ou).shape;have hcc5:=blk2 (Aa ((hz1.t hx).trans (((Ab _).drew.trans hk0).trans hk1)) HB0.out.1);have hcc6:=blk10 (Aa ((hz1.t hx).trans (((Ab _).drew.trans hk0).trans hk1)) HB0.out.2.1);have hcc7:=blk12 (Aa ((hz1.t hx).trans (((Ab _).drew.trans hk0).trans hk1)) HB0.out.2.2);have hcc8:=blk12 (Aa ((Ab _).trans (((Ab _).drew.trans hk0).trans hk1)) HGB.out)
     go_wp2_with fail
     refine HK.out _ _ hk1 ?_;clear HK K;refine oneStep (fun K HK=>?_);simp only [PK]
     go_wp2_with fail
     refine HK.out _ _ ((Ab _).alloc _) ?_;clear HK K;refine badStep (by kernel_rfl) (fun K HK=>?_);simp only [PK]
     go_wp2_with fail
     refine HK.out _ _ ?_;clear HK K;refine Ap (by kernel_rfl) ?_
     go_wp2_with fail
     go_meet
     exact⟨_,rfl,⟨p0,_,d0,p1,_,d1,_,blk_new _ _,Ba ou ((Ab _).alloc _),fun b hb=>⟨Ad ((Ab _).drew.trans hk0).size hb.1,Ak hb.2 ((Ab _).alloc _).size,fun e=>by rw [e] at hb;exact absurd hb.2 (Nat.lt_irrefl _)⟩⟩,(((Ab _).drew.trans hk0).trans hk1).size,(((Ab _).drew.trans hk0).trans hk1).alloc _⟩
    have hba:=blk_new wk0 (.cells #[.int .i64 0,.int .i64 0,.int .i64 0,.int .i64 0,.int .i64 0,.slice none 0 0,.int .i64 0,.int .i64 0,.int .i64 0,.int .i64 0,.int .i64 0,.slice none 0 0] 76);have HBA:=Ac hba;clear hba;refine oneStep (fun K HK=>?_);simp only [PK]
    go_wp2_with fail
    refine HK.out _ _ ((Ab _).alloc _) ?_;clear HK K;refine oneStep (fun K HK=>?_);simp only [PK]
    go_wp2_with fail
    refine(i_Forward t _ _ rv now (failedIfs t dead rv) iv y _ _ _ (ha.ext (((hx0.t hz1).t hx).trans (((Ab _).drew.trans hk0).trans ((Ab _).alloc _)))) (hk.ext (((hx0.t hz1).t hx).trans (((Ab _).drew.trans hk0).trans ((Ab _).alloc _)))) (rz0.ext (((Ab _).drew.trans hk0).trans ((Ab _).alloc _))) (rz1.ext (((Ab _).drew.trans hk0).trans ((Ab _).alloc _))) hly).mono ?_;rintro e wk1 ⟨u0,u1,rfl,ou,hk1⟩;rw [HCD.out,HEG.out,HZ.out];rw [HZ.out] at ou;obtain⟨p0,d0,rfl,_⟩:=(As ou).shape;obtain⟨p1,d1,rfl,_⟩:=(At ou).shape;have hcc9:=blk2 (Aa ((hz1.t hx).trans ((((Ab _).drew.trans hk0).trans ((Ab _).alloc _)).trans hk1)) HB0.out.1);have hcc10:=blk10 (Aa ((hz1.t hx).trans ((((Ab _).drew.trans hk0).trans ((Ab _).alloc _)).trans hk1)) HB0.out.2.1);have hcc11:=blk12 (Aa ((hz1.t hx).trans ((((Ab _).drew.trans hk0).trans ((Ab _).alloc _)).trans hk1)) HB0.out.2.2);have hcc12:=blk12 (Aa ((Ab _).trans ((((Ab _).drew.trans hk0).trans ((Ab _).alloc _)).trans hk1)) HGB.out)
    go_wp2_with fail
    refine HK.out _ _ hk1 ?_;clear HK K;have hbs:=Aa hk1 HBA.out;have hcs:=blk12 hbs;have hfs0:=fr12 hbs;have HBS:=Ac hbs;clear hbs;refine badStep (by kernel_rfl) (fun K HK=>?_);simp only [PK]
    go_wp2_with fail
    refine HK.out _ _ ?_;clear HK K;refine Ap (by kernel_rfl) ?_
    go_wp2_with fail
    go_meet
    obtain⟨wq,hwq,hbq,hcq,hsq⟩:=vd_set HBS.out (.int .i64 cd) (.int .i64 eg) (.int .i64 z.kind) (.int .i64 z.src) (.int .i64 z.dst) ((.slice p0 z.path.parts.length d0)) (.int .i64 z.pi) (.int .i64 z.hi) (.int .i64 z.beta) (.int .i64 z.rid) (.int .i64 z.seq) ((.slice p1 z.pay.length d1));rw [← hwq];exact⟨_,rfl,⟨p0,_,d0,p1,_,d1,_,hbq,An (Ba ou (Ab _)) hcq (fun b (hb:rng _ _ b) (e:b=_)=>absurd hb.1 (by rw [e];exact Nat.not_le.2 (Ak (blk_lt HBA.out) (Ab _).size))),fun b hb=>⟨Ad (((Ab _).drew.trans hk0).trans ((Ab _).alloc _)).size hb.1,by rw [hsq];exact Ak hb.2 (Ab _).size,(fun b (hb:rng _ _ b) (e:b=_)=>absurd hb.1 (by rw [e];exact Nat.not_le.2 (Ak (blk_lt HBA.out) (Ab _).size))) b hb⟩⟩,((Ab _).drew.trans hk0).size,((((Ab _).drew.trans hk0).trans ((Ab _).alloc _)).trans hk1).chg1 hcq ((Ab _).drew.trans hk0).size⟩
   have hba:=blk_new wr (.cells #[.int .i64 0,.int .i64 0,.int .i64 0,.int .i64 0,.int .i64 0,.slice none 0 0,.int .i64 0,.int .i64 0,.int .i64 0,.int .i64 0,.int .i64 0,.slice none 0 0] 76);have HBA:=Ac hba;clear hba;refine oneStep (fun K HK=>?_);simp only [PK]
   go_wp2_with fail
   refine HK.out _ _ ((Ab _).alloc _) ?_;clear HK K;refine oneStep (fun K HK=>?_);simp only [PK]
   go_wp2_with fail
   refine(i_FailedInterfaces t _ _ dead _ rv _ (ha.ext (((hx0.t hz1).t hx).trans ((Ab _).drew.t ((Ab _).alloc _)))) (hk.ext (((hx0.t hz1).t hx).trans ((Ab _).drew.t ((Ab _).alloc _)))) (hd.ext (((hx0.t hz1).t hx).trans ((Ab _).drew.t ((Ab _).alloc _)))) ht).mono ?_;rintro e wk0 ⟨rfl,hk0⟩;have hcc13:=blk2 (Aa ((hz1.t hx).trans (((Ab _).drew.t ((Ab _).alloc _)).trans hk0)) HB0.out.1);have hcc14:=blk10 (Aa ((hz1.t hx).trans (((Ab _).drew.t ((Ab _).alloc _)).trans hk0)) HB0.out.2.1);have hcc15:=blk12 (Aa ((hz1.t hx).trans (((Ab _).drew.t ((Ab _).alloc _)).trans hk0)) HB0.out.2.2);have hcc16:=blk12 (Aa ((Ab _).trans (((Ab _).drew.t ((Ab _).alloc _)).trans hk0)) HGB.out)
   go_wp2_with fail
   refine HK.out _ _ hk0 ?_;clear HK K;refine oneStep (fun K HK=>?_);simp only [PK]
   go_wp2_with fail
   refine(i_Forward t _ _ rv now (failedIfs t dead rv) iv y _ _ _ (ha.ext (((hx0.t hz1).t hx).trans (((Ab _).drew.t ((Ab _).alloc _)).trans hk0))) (hk.ext (((hx0.t hz1).t hx).trans (((Ab _).drew.t ((Ab _).alloc _)).trans hk0))) (rz0.ext (((Ab _).drew.t ((Ab _).alloc _)).trans hk0)) (rz1.ext (((Ab _).drew.t ((Ab _).alloc _)).trans hk0)) hly).mono ?_;rintro e wk1 ⟨u0,u1,rfl,ou,hk1⟩;rw [HCD.out,HEG.out,HZ.out];rw [HZ.out] at ou;obtain⟨p0,d0,rfl,_⟩:=(As ou).shape;obtain⟨p1,d1,rfl,_⟩:=(At ou).shape;have hcc17:=blk2 (Aa ((hz1.t hx).trans ((((Ab _).drew.t ((Ab _).alloc _)).trans hk0).trans hk1)) HB0.out.1);have hcc18:=blk10 (Aa ((hz1.t hx).trans ((((Ab _).drew.t ((Ab _).alloc _)).trans hk0).trans hk1)) HB0.out.2.1);have hcc19:=blk12 (Aa ((hz1.t hx).trans ((((Ab _).drew.t ((Ab _).alloc _)).trans hk0).trans hk1)) HB0.out.2.2);have hcc20:=blk12 (Aa ((Ab _).trans ((((Ab _).drew.t ((Ab _).alloc _)).trans hk0).trans hk1)) HGB.out)
   go_wp2_with fail
   refine HK.out _ _ hk1 ?_;clear HK K;have hbs:=Aa (hk0.trans hk1) HBA.out;have hcs:=blk12 hbs;have hfs0:=fr12 hbs;have HBS:=Ac hbs;clear hbs;refine badStep (by kernel_rfl) (fun K HK=>?_);simp only [PK]
   go_wp2_with fail
   refine HK.out _ _ ?_;clear HK K;refine Ap (by kernel_rfl) ?_
   go_wp2_with fail
   go_meet
   obtain⟨wq,hwq,hbq,hcq,hsq⟩:=vd_set HBS.out (.int .i64 cd) (.int .i64 eg) (.int .i64 z.kind) (.int .i64 z.src) (.int .i64 z.dst) ((.slice p0 z.path.parts.length d0)) (.int .i64 z.pi) (.int .i64 z.hi) (.int .i64 z.beta) (.int .i64 z.rid) (.int .i64 z.seq) ((.slice p1 z.pay.length d1));rw [← hwq];exact⟨_,rfl,⟨p0,_,d0,p1,_,d1,_,hbq,An (Ba ou (Ab _)) hcq (fun b (hb:rng _ _ b) (e:b=_)=>absurd hb.1 (by rw [e];exact Nat.not_le.2 (Ak (blk_lt HBA.out) hk0.size))),fun b hb=>⟨Ad (((Ab _).drew.t ((Ab _).alloc _)).trans hk0).size hb.1,by rw [hsq];exact Ak hb.2 (Ab _).size,(fun b (hb:rng _ _ b) (e:b=_)=>absurd hb.1 (by rw [e];exact Nat.not_le.2 (Ak (blk_lt HBA.out) hk0.size))) b hb⟩⟩,(Ab _).drew.size,((((Ab _).drew.t ((Ab _).alloc _)).trans hk0).trans hk1).chg1 hcq (Ab _).drew.size⟩
  case rest=>
   obtain⟨gv,rfl,⟨p0,m0,d0,p1,m1,d1,S1,hbv,hov,hSv⟩,hvge,hxv⟩:=hcut
   obtain⟨wv,hwv⟩:∃ wv:World,wv=wc:=⟨_,rfl⟩
   subst hwv;have hgl:g<wr.heap.size:=blk_lt HGB.out;have hne:gv≠g:=by omega
   have HBV:=Ac hbv;clear hbv;have hG:=Aa hxv HGB.out;obtain⟨wt,hwt,hbt,hct,hszt⟩:=tr_set hG (.int .i64 cd) (.int .i64 z.kind) (.int .i64 z.src) (.int .i64 z.dst) ((.slice p0 m0 d0)) (.int .i64 z.pi) (.int .i64 z.hi) (.int .i64 z.beta) (.int .i64 z.rid) (.int .i64 z.seq) ((.slice p1 m1 d1));have HWT:=Ac hwt;have HBT:=Ac hbt;have HBW:=Ac (hct.other HBV.out hne);have hos2:=(hos.ext hxv).chg hct (fun kk hkk e=>absurd hkk (by rw [e];exact(hos.ext hxv).ne hG (by decide)));have how2:=An hov hct (fun b hb e=>by have h1:=(hSv b hb).1;omega);have hxt:=(hx.t hxv).chg1 hct hge;have hdis:∀ b,S1 b→(Value.slice os l.length cs).ownBlock≠some b:=fun b hb e=>by have h1:=(hSv b hb).1;have h2:=(hos.block b e).2;omega
   have hSt:∀ b,S1 b→(w.heap.size+1+1+1)≤b∧b<wt.heap.size∧(Value.slice os l.length cs).ownBlock≠some b:=fun b hb=>⟨by have h1:=(hSv b hb).1;omega,by have h1:=(hSv b hb).2.1;omega,hdis b hb⟩
   have hfg0:=fr_of hG 0;have hfg2:=fr_of hG 2;have hfg3:=fr_of hG 3;have hfg4:=fr_of hG 4;have hfg5:=fr_of hG 5;have hfg6:=fr_of hG 6;have hfg7:=fr_of hG 7;have hfg8:=fr_of hG 8;have hfg9:=fr_of hG 9;have hfg10:=fr_of hG 10;have hfg11:=fr_of hG 11;clear hwt hbt hG hszt
   try clear cf7
   try clear cf8
   try clear cf9
   try clear cf10
   have cf11:=blk2 (Aa ((hz1.t hx).t hxv) HB0.out.1);have cf12:=blk10 (Aa ((hz1.t hx).t hxv) HB0.out.2.1);have cf13:=blk12 (Aa ((hz1.t hx).t hxv) HB0.out.2.2);have cf14:=blk12 (Aa hxv HGB.out);have cf15:=blk12 HBV.out
   go_upto_region 8 with (fail)
   rw [← HWT.out];clear hfg0 hfg2 hfg3 hfg4 hfg5 hfg6 hfg7 hfg8 hfg9 hfg10 hfg11;clear cf11;clear cf12;clear cf13;clear cf14;clear cf15
   by_cases k0:cd=0
   ·
    subst k0;have cf16:=blk2 (Aa (hz1.t hxt) HB0.out.1);have cf17:=blk10 (Aa (hz1.t hxt) HB0.out.2.1);have cf18:=blk12 (Aa (hz1.t hxt) HB0.out.2.2);have cf19:=blk12 HBT.out;have cf20:=blk12 HBW.out
    go_wp2_with (at_builtin;go_loud (refine app1p E Bu rfl _ _ rfl (⟨rv,iv,eg⟩:Step) (Step.one _) rfl (Ay hos2 ((Ab _).alloc _)) rfl (by exact Au (Step.f (⟨rv,iv,eg⟩:Step)) (blk_new wt _)) (by omega) (by unfold maxLen;omega) (by exact(hxt.alloc _).size) ?_))
    intro v' w' ho' hg' hat;have hbt1:=own_ne (Ay hos2 ((Ab _).alloc _)) (Aa ((Ab _).alloc _) HBT.out) (by decide) hg';have hbw1:=own_ne (Ay hos2 ((Ab _).alloc _)) (Aa ((Ab _).alloc _) HBW.out) (by decide) hg';have hx1:=Ext.app (hxt.alloc _) hg' hos2 (Ae _);have how3:=An (Ba how2 ((Ab _).alloc _)) (Bn (S:=fun b=>(Value.slice os l.length cs).ownBlock=some b) hg' (fun _ h=>h)) (fun b hb e=>hdis b hb e);have hsz3:=hg'.size;simp only [nblk_alloc] at hsz3
    have hdis3:∀ b,S1 b→v'.ownBlock≠some b:=by
     intro b hb e
     rcases hat with h | h
     ·
      exact hdis b hb (h ▸ e)
     rw [h] at e;have h1:=(hSt b hb).2.1;simp only [Option.some.injEq] at e;omega
    obtain⟨on,cn,hve,_⟩:=(Bb (hf:=Bu) ho').shape;rw [show(l ++ [(⟨rv,iv,eg⟩:Step)]).length=l.length+1 from by simp] at hve;subst hve;clear hat hg';obtain⟨wq,hwq,hbq,hcq,hsq⟩:=cell_set hbt1 1 (.slice on (l.length+1) cn);simp only [List.setIfInBounds_toArray,List.set_cons_succ,List.set_cons_zero] at hbq;have HWQ:=Ac hwq;have HBQ:=Ac hbq;have HBR:=Ac (hcq.other hbw1 hne);have hos3:=ho'.chg hcq (fun kk hkk e=>absurd hkk (by rw [e];exact ho'.ne hbt1 (by decide)));have how4:=An how3 hcq (fun b hb e=>by have h1:=(hSv b hb).1;omega);have hxq:=hx1.chg1 hcq hge
    have hSq:∀ b,S1 b→(w.heap.size+1+1+1)≤b∧b<wq.heap.size∧(Value.slice on (l.length+1) cn).ownBlock≠some b:=fun b hb=>⟨(hSt b hb).1,by have h1:=(hSt b hb).2.1;omega,hdis3 b hb⟩
    have fg1:=fr_of hbt1 1;have ct1:=blk12 hbt1;have ct2:=blk12 hbw1;clear hbt1 hbw1 hwq hbq how3 ho' hx1 hsq hsz3
    go_upto_region 11 with (fail)
    rw [← HWQ.out];clear fg1 ct1 ct2
    try clear cf16
    try clear cf17
    try clear cf18
    try clear cf19
    try clear cf20
    by_cases k3:k=30
    ·
     subst k3
     have HE : Hid ((traverse t now dead x) = ⟨0, (l ++ [(⟨rv, iv, eg⟩ : Step)]), z⟩) := Ac (by
      rw [← HTR.out, HF.out, trav_go HV.out]; have h0 : f0 = 0 := by have := HF.out; omega
      subst h0; rfl)
     have OT:=Ac (Trc.own_of (cd:=0) (lo:=(w.heap.size+1+1+1)) hos3 how4 hs1 hSq);have hR:=Aa (hz1.t hxq) HB0.out.2.2;obtain⟨wc,hwc,hrc,hcc,hsc⟩:=vd_set hR (.int .i64 0) ((.slice on (l.length+1) cn)) (.int .i64 z.kind) (.int .i64 z.src) (.int .i64 z.dst) ((.slice p0 m0 d0)) (.int .i64 z.pi) (.int .i64 z.hi) (.int .i64 z.beta) (.int .i64 z.rid) (.int .i64 z.seq) ((.slice p1 m1 d1));have HOW:=Ac (Trc.own_kept OT.out hcc (fun b hb e=>by have h1:=hb.1;omega));have HXX:=Ac (((hx0.t hz1).t hxq).chg1 hcc (by omega));have HWC:=Ac hwc;have HRC:=Ac hrc;have hsz2:wq.heap.size=wc.heap.size:=by rw [hsc]
     have gr0:=fr12 hR;clear hR hwc hrc hcc hsc;have cf21:=blk2 (Aa (hz1.t hxq) HB0.out.1);have cf22:=blk10 (Aa (hz1.t hxq) HB0.out.2.1);have cf23:=blk12 (Aa (hz1.t hxq) HB0.out.2.2);have cf24:=blk12 HBQ.out;have cf25:=blk12 HBR.out
     go_wp2_with fail
     rw [← HWC.out];clear gr0 cf21 cf22 cf23 cf24 cf25;have cc:=blk12 HRC.out;refine bodyPost_ret (by simp [results,Tryz.results8,go_sem,cc] <;> rfl) rfl ?_;rw [HE.out];exact⟨_,_,_,rfl,Trc.own_mono HOW.out (fun b hb=>⟨by have h1:=hb.1;omega,by have h2:=hb.2;omega⟩),HXX.out⟩
    have k4:((k:Int) == 30)=false:=by rw [beq_eq_false_iff_ne];omega
    have cf26:=blk2 (Aa (hz1.t hxq) HB0.out.1);have cf27:=blk10 (Aa (hz1.t hxq) HB0.out.2.1);have cf28:=blk12 (Aa (hz1.t hxq) HB0.out.2.2);have cf29:=blk12 HBQ.out;have cf30:=blk12 HBR.out
    go_wp2_with fail
    refine(i_RemoteEnd t _ _ rv eg _ (hk.ext ((hx0.t hz1).t hxq))).mono ?_;rintro e w2 ⟨rfl,hz2⟩
    try clear cf26
    try clear cf27
    try clear cf28
    try clear cf29
    try clear cf30
    have cf31:=blk2 (Aa ((hz1.t hxq).t hz2) HB0.out.1);have cf32:=blk10 (Aa ((hz1.t hxq).t hz2) HB0.out.2.1);have cf33:=blk12 (Aa ((hz1.t hxq).t hz2) HB0.out.2.2);have cf34:=blk12 (Aa hz2 HBQ.out);have cf35:=blk12 (Aa hz2 HBR.out)
    go_wp2_with fail
    go_roundg f0
    case measure=>rw [HF.out];exact Nat.lt_succ_self _
    case rel=>
     have hfv:=HF.out;refine⟨_,_,k+1,z,(l ++ [(⟨rv,iv,eg⟩:Step)]),rfl,rfl,by go_num,by omega,by omega,by omega,Ac (by rw [← trav_go HV.out,← HF.out];exact HTR.out),HZS,by simp;omega,?_,(hxq.t hz2)⟩;unfold TSt;rw [show(l ++ [(⟨rv,iv,eg⟩:Step)]).length=l.length+1 from by simp];exact⟨on,cn,p0,m0,d0,p1,m1,d1,S1,Aa hz2 HBQ.out,hos3.ext hz2,Ba how4 hz2,fun b hb=>⟨(hSq b hb).1,Ak (hSq b hb).2.1 hz2.size,by have h1:=(hSv b hb).1;omega,(hSq b hb).2.2⟩⟩
   by_cases k1:cd=1
   ·
    subst k1;have cf36:=blk2 (Aa (hz1.t hxt) HB0.out.1);have cf37:=blk10 (Aa (hz1.t hxt) HB0.out.2.1);have cf38:=blk12 (Aa (hz1.t hxt) HB0.out.2.2);have cf39:=blk12 HBT.out;have cf40:=blk12 HBW.out
    go_wp2_with (at_builtin;go_loud (refine app1p E Bu rfl _ _ rfl (⟨rv,iv,eg⟩:Step) (Step.one _) rfl (Ay hos2 ((Ab _).alloc _)) rfl (by exact Au (Step.f (⟨rv,iv,eg⟩:Step)) (blk_new wt _)) (by omega) (by unfold maxLen;omega) (by exact(hxt.alloc _).size) ?_))
    intro v' w' ho' hg' hat;have hbt1:=own_ne (Ay hos2 ((Ab _).alloc _)) (Aa ((Ab _).alloc _) HBT.out) (by decide) hg';have hbw1:=own_ne (Ay hos2 ((Ab _).alloc _)) (Aa ((Ab _).alloc _) HBW.out) (by decide) hg';have hx1:=Ext.app (hxt.alloc _) hg' hos2 (Ae _);have how3:=An (Ba how2 ((Ab _).alloc _)) (Bn (S:=fun b=>(Value.slice os l.length cs).ownBlock=some b) hg' (fun _ h=>h)) (fun b hb e=>hdis b hb e);have hsz3:=hg'.size;simp only [nblk_alloc] at hsz3
    have hdis3:∀ b,S1 b→v'.ownBlock≠some b:=by
     intro b hb e
     rcases hat with h | h
     ·
      exact hdis b hb (h ▸ e)
     rw [h] at e;have h1:=(hSt b hb).2.1;simp only [Option.some.injEq] at e;omega
    obtain⟨on,cn,hve,_⟩:=(Bb (hf:=Bu) ho').shape;rw [show(l ++ [(⟨rv,iv,eg⟩:Step)]).length=l.length+1 from by simp] at hve;subst hve;clear hat hg';obtain⟨wq,hwq,hbq,hcq,hsq⟩:=cell_set hbt1 1 (.slice on (l.length+1) cn);simp only [List.setIfInBounds_toArray,List.set_cons_succ,List.set_cons_zero] at hbq;have HWQ:=Ac hwq;have HBQ:=Ac hbq;have HBR:=Ac (hcq.other hbw1 hne);have hos3:=ho'.chg hcq (fun kk hkk e=>absurd hkk (by rw [e];exact ho'.ne hbt1 (by decide)));have how4:=An how3 hcq (fun b hb e=>by have h1:=(hSv b hb).1;omega);have hxq:=hx1.chg1 hcq hge
    have hSq:∀ b,S1 b→(w.heap.size+1+1+1)≤b∧b<wq.heap.size∧(Value.slice on (l.length+1) cn).ownBlock≠some b:=fun b hb=>⟨(hSt b hb).1,by have h1:=(hSt b hb).2.1;omega,hdis3 b hb⟩
    have fg1:=fr_of hbt1 1;have ct1:=blk12 hbt1;have ct2:=blk12 hbw1;clear hbt1 hbw1 hwq hbq how3 ho' hx1 hsq hsz3
    go_upto_region 11 with (fail)
    rw [← HWQ.out];clear fg1 ct1 ct2
    try clear cf36
    try clear cf37
    try clear cf38
    try clear cf39
    try clear cf40
    have HE:Hid ((traverse t now dead x)=⟨1,(l ++ [(⟨rv,iv,eg⟩:Step)]),z⟩):=Ac (by rw [← HTR.out,HF.out];exact trav_del HV.out);have OT:=Ac (Trc.own_of (cd:=1) (lo:=(w.heap.size+1+1+1)) hos3 how4 hs1 hSq);have hR:=Aa (hz1.t hxq) HB0.out.2.2;obtain⟨wc,hwc,hrc,hcc,hsc⟩:=vd_set hR (.int .i64 1) ((.slice on (l.length+1) cn)) (.int .i64 z.kind) (.int .i64 z.src) (.int .i64 z.dst) ((.slice p0 m0 d0)) (.int .i64 z.pi) (.int .i64 z.hi) (.int .i64 z.beta) (.int .i64 z.rid) (.int .i64 z.seq) ((.slice p1 m1 d1));have HOW:=Ac (Trc.own_kept OT.out hcc (fun b hb e=>by have h1:=hb.1;omega));have HXX:=Ac (((hx0.t hz1).t hxq).chg1 hcc (by omega));have HWC:=Ac hwc;have HRC:=Ac hrc;have hsz2:wq.heap.size=wc.heap.size:=by rw [hsc]
    have gr0:=fr12 hR;clear hR hwc hrc hcc hsc;have cf41:=blk2 (Aa (hz1.t hxq) HB0.out.1);have cf42:=blk10 (Aa (hz1.t hxq) HB0.out.2.1);have cf43:=blk12 (Aa (hz1.t hxq) HB0.out.2.2);have cf44:=blk12 HBQ.out;have cf45:=blk12 HBR.out
    go_wp2_with fail
    rw [← HWC.out];clear gr0 cf41 cf42 cf43 cf44 cf45;have cc:=blk12 HRC.out;refine bodyPost_ret (by simp [results,Tryz.results8,go_sem,cc] <;> rfl) rfl ?_;rw [HE.out];exact⟨_,_,_,rfl,Trc.own_mono HOW.out (fun b hb=>⟨by have h1:=hb.1;omega,by have h2:=hb.2;omega⟩),HXX.out⟩
   have HE:Hid ((traverse t now dead x)=⟨cd,l,z⟩):=Ac (by rw [← HTR.out,HF.out];exact trav_bad HV.out k0 k1);have k2:1<cd:=by have:=HNN.out;omega
   have k5:(cd == 0)=false:=by rw [beq_eq_false_iff_ne];exact k0
   have k6:(cd != 0)=true:=by simp only [bne,k5];rfl
   have k7:(cd == 1)=false:=by rw [beq_eq_false_iff_ne];exact k1
   have k8:(cd != 1)=true:=by simp only [bne,k7];rfl
   have OT:=Ac (Trc.own_of (cd:=cd) (lo:=(w.heap.size+1+1+1)) hos2 how2 hs1 hSt);have hR:=Aa (hz1.t hxt) HB0.out.2.2;obtain⟨wc,hwc,hrc,hcc,hsc⟩:=vd_set hR (.int .i64 cd) ((.slice os l.length cs)) (.int .i64 z.kind) (.int .i64 z.src) (.int .i64 z.dst) ((.slice p0 m0 d0)) (.int .i64 z.pi) (.int .i64 z.hi) (.int .i64 z.beta) (.int .i64 z.rid) (.int .i64 z.seq) ((.slice p1 m1 d1));have HOW:=Ac (Trc.own_kept OT.out hcc (fun b hb e=>by have h1:=hb.1;omega));have HXX:=Ac (((hx0.t hz1).t hxt).chg1 hcc (by omega));have HWC:=Ac hwc;have HRC:=Ac hrc;have hsz2:wt.heap.size=wc.heap.size:=by rw [hsc]
   have gr0:=fr12 hR;clear hR hwc hrc hcc hsc;have cf46:=blk2 (Aa (hz1.t hxt) HB0.out.1);have cf47:=blk10 (Aa (hz1.t hxt) HB0.out.2.1);have cf48:=blk12 (Aa (hz1.t hxt) HB0.out.2.2);have cf49:=blk12 HBT.out;have cf50:=blk12 HBW.out
   go_wp2_with fail
   rw [← HWC.out];clear gr0 cf46 cf47 cf48 cf49 cf50;have cc:=blk12 HRC.out;refine bodyPost_ret (by simp [results,Tryz.results8,go_sem,cc] <;> rfl) rfl ?_;rw [HE.out];exact⟨_,_,_,rfl,Trc.own_mono HOW.out (fun b hb=>⟨by have h1:=hb.1;omega,by have h2:=hb.2;omega⟩),HXX.out⟩
theorem s_Traverse (t:Topo) (va vk:Value) (now:Int) (dead:List Int) (vd:Value) (x:Pkt) (v0 v1:Value) (w:World) (ha:RdS ASd.rep w va t.ases) (hk:RdS Lnk.rep w vk t.links) (hd:RdS Rep.int w vd dead) (r0:RdS Part.rep w v0 x.path.parts) (r1:RdS Rep.byte w v1 x.pay) (ht:t.size≤1048576) (hl:x.size≤1048576) :
  Calls Tryz.prog 13 #[.agg #[va,vk],.int .i64 now,vd,.agg #[.int .i64 x.kind,.int .i64 x.src,.int .i64 x.dst,v0,.int .i64 x.pi,.int .i64 x.hi,.int .i64 x.beta,.int .i64 x.rid,.int .i64 x.seq,v1]] w fun e w'=>∃ u0 u1 u2,e=.returned (.agg #[.int .i64 (traverse t now dead x).code,u0,.int .i64 (traverse t now dead x).pkt.kind,.int .i64 (traverse t now dead x).pkt.src,.int .i64 (traverse t now dead x).pkt.dst,u1,.int .i64 (traverse t now dead x).pkt.pi,.int .i64 (traverse t now dead x).pkt.hi,.int .i64 (traverse t now dead x).pkt.beta,.int .i64 (traverse t now dead x).pkt.rid,.int .i64 (traverse t now dead x).pkt.seq,u2])∧Trc.own (rng w.heap.size w'.heap.size) w' u0 u1 u2 (traverse t now dead x)∧Ext w w':=by
 obtain⟨o,cap,rfl,hsm⟩:=r0.shape;obtain⟨oy,cy,rfl,hsy⟩:=r1.shape;obtain⟨od,cdd,rfl,_⟩:=hd.shape;obtain⟨E⟩:=elemStep;obtain⟨hx0,HB0⟩:=ea3 w (.cells #[va,vk] 27) (.cells #[.int .i64 x.kind,.int .i64 x.src,.int .i64 x.dst,.slice o x.path.parts.length cap,.int .i64 x.pi,.int .i64 x.hi,.int .i64 x.beta,.int .i64 x.rid,.int .i64 x.seq,.slice oy x.pay.length cy] 35) (.cells #[.int .i64 0,.slice none 0 0,.int .i64 0,.int .i64 0,.int .i64 0,.slice none 0 0,.int .i64 0,.int .i64 0,.int .i64 0,.int .i64 0,.int .i64 0,.slice none 0 0] 40);replace HB0:=Ac HB0
 go_enter Tryz.func13,Tryz.ntmps13
 have cf1:=blk2 HB0.out.1;have cf2:=blk10 HB0.out.2.1;have cf3:=blk12 HB0.out.2.2
 go_wp2_with fail
 refine(s_l26Copy x _ _ _ (r0.ext hx0) (r1.ext hx0) hl).mono ?_;rintro e w1 ⟨u0,u1,rfl,ou,hz1⟩;obtain⟨p0,d0,rfl,_⟩:=(As ou).shape;obtain⟨p1,d1,rfl,_⟩:=(At ou).shape;have hs1:(w.heap.size+1+1+1)≤w1.heap.size:=by simpa using hz1.size
 obtain⟨g,hgw⟩:∃ g:Nat,g=w1.heap.size:=⟨_,rfl⟩
 have hxc:=(Ab w1).alloc (.cells #[.int .i64 0,.slice none 0 0,.int .i64 x.kind,.int .i64 x.src,.int .i64 x.dst,.slice p0 x.path.parts.length d0,.int .i64 x.pi,.int .i64 x.hi,.int .i64 x.beta,.int .i64 x.rid,.int .i64 x.seq,.slice p1 x.pay.length d1] 40);have hge:w1.heap.size≤g:=by rw [hgw];exact Ae _
 have HST0:Hid (TSt (w.heap.size+1+1+1) w1.heap.size g 0 [] x (w1.alloc (.cells #[.int .i64 0,.slice none 0 0,.int .i64 x.kind,.int .i64 x.src,.int .i64 x.dst,.slice p0 x.path.parts.length d0,.int .i64 x.pi,.int .i64 x.hi,.int .i64 x.beta,.int .i64 x.rid,.int .i64 x.seq,.slice p1 x.pay.length d1] 40))):=by
  rw [hgw];exact Ac ⟨none,0,_,_,_,_,_,_,_,blk_new _ _,OwnF.nil _ _ _ _ _,Ba ou ((Ab _).alloc _),fun b hb=>⟨by have h1:=hb.1;simp at h1;omega,Ak hb.2 ((Ab _).alloc _).size,(fun e=>by rw [e] at hb;exact absurd hb.2 (Nat.lt_irrefl _)),by simp [Value.ownBlock]⟩⟩
 clear ou
 try clear cf1
 try clear cf2
 try clear cf3
 have cf4:=blk2 (Aa hz1 HB0.out.1);have cf5:=blk10 (Aa hz1 HB0.out.2.1);have cf6:=blk12 (Aa hz1 HB0.out.2.2);have cpk:=blk10 (Aa (hz1.t hxc) HB0.out.2.1)
 go_wp2_with fail
 rw [← hgw];clear hgw;clear cpk
 try clear cf4
 try clear cf5
 try clear cf6
 go_loopg [10,11,12] 30 (fun gk ar ai ak wr=>∃ (rv iv:Int) (k:Nat) (y:Pkt) (l:List Step),ar=.int .i64 rv∧ai=.int .i64 iv∧ak=.int .i64 k∧gk+k=30∧0≤k∧k≤30∧Hid (trav t now dead gk rv iv y l=(traverse t now dead x))∧Hid (y.size=x.size)∧l.length≤k∧TSt (w.heap.size+1+1+1) w1.heap.size g 0 l y wr∧Ext w1 wr)
 case atStart=>exact⟨x.src,0,0,x,[],rfl,rfl,rfl,rfl,by omega,by omega,Ac rfl,Ac rfl,Nat.zero_le _,HST0.out,hxc⟩
 case round=>
  clear HST0 hxc;obtain⟨rv,iv,k,y,l,rfl,rfl,rfl,hn0,hn1,hn2,HTR,HYS,hll,hst,hx⟩:=hrel;obtain⟨os,cs,o0,n0,c0,o1,n1,c1,S0,hg,hos,hown,hS⟩:=hst;have HGB:=Ac hg;clear hg;have hly:y.size≤1048576:=by rw [HYS.out];exact hl
  by_cases k9:k<30
  ·
   have k10:(k:Int)<30:=by omega
   obtain⟨f0,hf0⟩:∃ f0,gk=f0+1:=⟨gk - 1,by omega⟩
   have HF:=Ac hf0;clear hf0;have rz0:=As hown;have rz1:=At hown
   obtain⟨v,hv⟩:∃ v,forward t rv now (failedIfs t dead rv) iv y=v:=⟨_,rfl⟩
   obtain⟨cd,eg,z⟩:=v;have HV:=Ac hv;have HCD:Hid ((forward t rv now (failedIfs t dead rv) iv y).code=cd):=Ac (by rw [hv]);have HEG:Hid ((forward t rv now (failedIfs t dead rv) iv y).eg=eg):=Ac (by rw [hv]);have HZ:Hid ((forward t rv now (failedIfs t dead rv) iv y).pkt=z):=Ac (by rw [hv]);have HZS:Hid (z.size=x.size):=Ac (by rw [← HZ.out,fw_size];exact HYS.out);have HNN:Hid (0≤cd):=Ac (by rw [← HCD.out];exact fw_nn _ _ _ _ _ _);clear hv;have cf7:=blk2 (Aa (hz1.t hx) HB0.out.1);have cf8:=blk10 (Aa (hz1.t hx) HB0.out.2.1);have cf9:=blk12 (Aa (hz1.t hx) HB0.out.2.2);have cf10:=blk12 HGB.out
   go_upto_region 7 with (fail)
   go_cut [13] (fun v13 wx=>∃ gv:Nat,v13=.pointer (some ⟨gv,0,none⟩)∧VSt wr.heap.size gv cd eg z wx∧wr.heap.size≤gv∧Ext wr wx)
   case first=>
    refine Ax (.blk [0,1,2,3,4,5,7,8,9] (.two 6 11 (.two 10 11 (.one 11 (.one 12 .done)) (.one 10 (.one 12 .done))) (.one 6 (.one 10 (.one 12 .done))))) [12] (by kernel_rfl) (by kernel_rfl) ?_;refine blkStep (fun K HK=>?_);simp only [PK]
    go_wp2_with fail
    refine HK.out _ _ ?_;clear HK K;refine twoStep ?_ ?_
    ·
     refine oneStep (fun K HK=>?_);simp only [PK]
     go_wp2_with fail
     refine(s_FailedInterfaces t _ _ dead _ rv _ (ha.ext (((hx0.t hz1).t hx).trans (Ab _).drew)) (hk.ext (((hx0.t hz1).t hx).trans (Ab _).drew)) (hd.ext (((hx0.t hz1).t hx).trans (Ab _).drew)) ht).mono ?_;rintro e wk0 ⟨rfl,hk0⟩;have hcc1:=blk2 (Aa ((hz1.t hx).trans ((Ab _).drew.trans hk0)) HB0.out.1);have hcc2:=blk10 (Aa ((hz1.t hx).trans ((Ab _).drew.trans hk0)) HB0.out.2.1);have hcc3:=blk12 (Aa ((hz1.t hx).trans ((Ab _).drew.trans hk0)) HB0.out.2.2);have hcc4:=blk12 (Aa ((Ab _).trans ((Ab _).drew.trans hk0)) HGB.out)
     go_wp2_with fail
     refine HK.out _ _ hk0 ?_;clear HK K;refine twoStep ?_ ?_
     ·
      refine oneStep (fun K HK=>?_);simp only [PK]
      go_wp2_with fail
      refine(s_Forward t _ _ rv now (failedIfs t dead rv) iv y _ _ _ (ha.ext (((hx0.t hz1).t hx).trans ((Ab _).drew.trans hk0))) (hk.ext (((hx0.t hz1).t hx).trans ((Ab _).drew.trans hk0))) (rz0.ext ((Ab _).drew.trans hk0)) (rz1.ext ((Ab _).drew.trans hk0)) hly).mono ?_;rintro e wk1 ⟨u0,u1,rfl,ou,hk1⟩;rw [HCD.out,HEG.out,HZ.out];rw [HZ.out] at ou;obtain⟨p0,d0,rfl,_⟩:=(As ou).shape;obtain⟨p1,d1,rfl,_⟩:=(At ou).shape;have hcc5:=blk2 (Aa ((hz1.t hx).trans (((Ab _).drew.trans hk0).trans hk1)) HB0.out.1);have hcc6:=blk10 (Aa ((hz1.t hx).trans (((Ab _).drew.trans hk0).trans hk1)) HB0.out.2.1);have hcc7:=blk12 (Aa ((hz1.t hx).trans (((Ab _).drew.trans hk0).trans hk1)) HB0.out.2.2);have hcc8:=blk12 (Aa ((Ab _).trans (((Ab _).drew.trans hk0).trans hk1)) HGB.out)
      go_wp2_with fail
      refine HK.out _ _ hk1 ?_;clear HK K;refine oneStep (fun K HK=>?_);simp only [PK]
      go_wp2_with fail
      refine HK.out _ _ ((Ab _).alloc _) ?_;clear HK K;refine badStep (by kernel_rfl) (fun K HK=>?_);simp only [PK]
      go_wp2_with fail
      refine HK.out _ _ ?_;clear HK K;refine Ap (by kernel_rfl) ?_
      go_wp2_with fail
      go_meet
      exact⟨_,rfl,⟨p0,_,d0,p1,_,d1,_,blk_new _ _,Ba ou ((Ab _).alloc _),fun b hb=>⟨Ad ((Ab _).drew.trans hk0).size hb.1,Ak hb.2 ((Ab _).alloc _).size,fun e=>by rw [e] at hb;exact absurd hb.2 (Nat.lt_irrefl _)⟩⟩,(((Ab _).drew.trans hk0).trans hk1).size,(((Ab _).drew.trans hk0).trans hk1).alloc _⟩
     have hba:=blk_new wk0 (.cells #[.int .i64 0,.int .i64 0,.int .i64 0,.int .i64 0,.int .i64 0,.slice none 0 0,.int .i64 0,.int .i64 0,.int .i64 0,.int .i64 0,.int .i64 0,.slice none 0 0] 76);have HBA:=Ac hba;clear hba;refine oneStep (fun K HK=>?_);simp only [PK]
     go_wp2_with fail
     refine HK.out _ _ ((Ab _).alloc _) ?_;clear HK K;refine oneStep (fun K HK=>?_);simp only [PK]
     go_wp2_with fail
     refine(s_Forward t _ _ rv now (failedIfs t dead rv) iv y _ _ _ (ha.ext (((hx0.t hz1).t hx).trans (((Ab _).drew.trans hk0).trans ((Ab _).alloc _)))) (hk.ext (((hx0.t hz1).t hx).trans (((Ab _).drew.trans hk0).trans ((Ab _).alloc _)))) (rz0.ext (((Ab _).drew.trans hk0).trans ((Ab _).alloc _))) (rz1.ext (((Ab _).drew.trans hk0).trans ((Ab _).alloc _))) hly).mono ?_;rintro e wk1 ⟨u0,u1,rfl,ou,hk1⟩;rw [HCD.out,HEG.out,HZ.out];rw [HZ.out] at ou;obtain⟨p0,d0,rfl,_⟩:=(As ou).shape;obtain⟨p1,d1,rfl,_⟩:=(At ou).shape;have hcc9:=blk2 (Aa ((hz1.t hx).trans ((((Ab _).drew.trans hk0).trans ((Ab _).alloc _)).trans hk1)) HB0.out.1);have hcc10:=blk10 (Aa ((hz1.t hx).trans ((((Ab _).drew.trans hk0).trans ((Ab _).alloc _)).trans hk1)) HB0.out.2.1);have hcc11:=blk12 (Aa ((hz1.t hx).trans ((((Ab _).drew.trans hk0).trans ((Ab _).alloc _)).trans hk1)) HB0.out.2.2);have hcc12:=blk12 (Aa ((Ab _).trans ((((Ab _).drew.trans hk0).trans ((Ab _).alloc _)).trans hk1)) HGB.out)
     go_wp2_with fail
     refine HK.out _ _ hk1 ?_;clear HK K;have hbs:=Aa hk1 HBA.out;have hcs:=blk12 hbs;have hfs0:=fr12 hbs;have HBS:=Ac hbs;clear hbs;refine badStep (by kernel_rfl) (fun K HK=>?_);simp only [PK]
     go_wp2_with fail
     refine HK.out _ _ ?_;clear HK K;refine Ap (by kernel_rfl) ?_
     go_wp2_with fail
     go_meet
     obtain⟨wq,hwq,hbq,hcq,hsq⟩:=vd_set HBS.out (.int .i64 cd) (.int .i64 eg) (.int .i64 z.kind) (.int .i64 z.src) (.int .i64 z.dst) ((.slice p0 z.path.parts.length d0)) (.int .i64 z.pi) (.int .i64 z.hi) (.int .i64 z.beta) (.int .i64 z.rid) (.int .i64 z.seq) ((.slice p1 z.pay.length d1));rw [← hwq];exact⟨_,rfl,⟨p0,_,d0,p1,_,d1,_,hbq,An (Ba ou (Ab _)) hcq (fun b (hb:rng _ _ b) (e:b=_)=>absurd hb.1 (by rw [e];exact Nat.not_le.2 (Ak (blk_lt HBA.out) (Ab _).size))),fun b hb=>⟨Ad (((Ab _).drew.trans hk0).trans ((Ab _).alloc _)).size hb.1,by rw [hsq];exact Ak hb.2 (Ab _).size,(fun b (hb:rng _ _ b) (e:b=_)=>absurd hb.1 (by rw [e];exact Nat.not_le.2 (Ak (blk_lt HBA.out) (Ab _).size))) b hb⟩⟩,((Ab _).drew.trans hk0).size,((((Ab _).drew.trans hk0).trans ((Ab _).alloc _)).trans hk1).chg1 hcq ((Ab _).drew.trans hk0).size⟩
    have hba:=blk_new wr (.cells #[.int .i64 0,.int .i64 0,.int .i64 0,.int .i64 0,.int .i64 0,.slice none 0 0,.int .i64 0,.int .i64 0,.int .i64 0,.int .i64 0,.int .i64 0,.slice none 0 0] 76);have HBA:=Ac hba;clear hba;refine oneStep (fun K HK=>?_);simp only [PK]
    go_wp2_with fail
    refine HK.out _ _ ((Ab _).alloc _) ?_;clear HK K;refine oneStep (fun K HK=>?_);simp only [PK]
    go_wp2_with fail
    refine(s_FailedInterfaces t _ _ dead _ rv _ (ha.ext (((hx0.t hz1).t hx).trans ((Ab _).drew.t ((Ab _).alloc _)))) (hk.ext (((hx0.t hz1).t hx).trans ((Ab _).drew.t ((Ab _).alloc _)))) (hd.ext (((hx0.t hz1).t hx).trans ((Ab _).drew.t ((Ab _).alloc _)))) ht).mono ?_;rintro e wk0 ⟨rfl,hk0⟩;have hcc13:=blk2 (Aa ((hz1.t hx).trans (((Ab _).drew.t ((Ab _).alloc _)).trans hk0)) HB0.out.1);have hcc14:=blk10 (Aa ((hz1.t hx).trans (((Ab _).drew.t ((Ab _).alloc _)).trans hk0)) HB0.out.2.1);have hcc15:=blk12 (Aa ((hz1.t hx).trans (((Ab _).drew.t ((Ab _).alloc _)).trans hk0)) HB0.out.2.2);have hcc16:=blk12 (Aa ((Ab _).trans (((Ab _).drew.t ((Ab _).alloc _)).trans hk0)) HGB.out)
    go_wp2_with fail
    refine HK.out _ _ hk0 ?_;clear HK K;refine oneStep (fun K HK=>?_);simp only [PK]
    go_wp2_with fail
    refine(s_Forward t _ _ rv now (failedIfs t dead rv) iv y _ _ _ (ha.ext (((hx0.t hz1).t hx).trans (((Ab _).drew.t ((Ab _).alloc _)).trans hk0))) (hk.ext (((hx0.t hz1).t hx).trans (((Ab _).drew.t ((Ab _).alloc _)).trans hk0))) (rz0.ext (((Ab _).drew.t ((Ab _).alloc _)).trans hk0)) (rz1.ext (((Ab _).drew.t ((Ab _).alloc _)).trans hk0)) hly).mono ?_;rintro e wk1 ⟨u0,u1,rfl,ou,hk1⟩;rw [HCD.out,HEG.out,HZ.out];rw [HZ.out] at ou;obtain⟨p0,d0,rfl,_⟩:=(As ou).shape;obtain⟨p1,d1,rfl,_⟩:=(At ou).shape;have hcc17:=blk2 (Aa ((hz1.t hx).trans ((((Ab _).drew.t ((Ab _).alloc _)).trans hk0).trans hk1)) HB0.out.1);have hcc18:=blk10 (Aa ((hz1.t hx).trans ((((Ab _).drew.t ((Ab _).alloc _)).trans hk0).trans hk1)) HB0.out.2.1);have hcc19:=blk12 (Aa ((hz1.t hx).trans ((((Ab _).drew.t ((Ab _).alloc _)).trans hk0).trans hk1)) HB0.out.2.2);have hcc20:=blk12 (Aa ((Ab _).trans ((((Ab _).drew.t ((Ab _).alloc _)).trans hk0).trans hk1)) HGB.out)
    go_wp2_with fail
    refine HK.out _ _ hk1 ?_;clear HK K;have hbs:=Aa (hk0.trans hk1) HBA.out;have hcs:=blk12 hbs;have hfs0:=fr12 hbs;have HBS:=Ac hbs;clear hbs;refine badStep (by kernel_rfl) (fun K HK=>?_);simp only [PK]
    go_wp2_with fail
    refine HK.out _ _ ?_;clear HK K;refine Ap (by kernel_rfl) ?_
    go_wp2_with fail
    go_meet
    obtain⟨wq,hwq,hbq,hcq,hsq⟩:=vd_set HBS.out (.int .i64 cd) (.int .i64 eg) (.int .i64 z.kind) (.int .i64 z.src) (.int .i64 z.dst) ((.slice p0 z.path.parts.length d0)) (.int .i64 z.pi) (.int .i64 z.hi) (.int .i64 z.beta) (.int .i64 z.rid) (.int .i64 z.seq) ((.slice p1 z.pay.length d1));rw [← hwq];exact⟨_,rfl,⟨p0,_,d0,p1,_,d1,_,hbq,An (Ba ou (Ab _)) hcq (fun b (hb:rng _ _ b) (e:b=_)=>absurd hb.1 (by rw [e];exact Nat.not_le.2 (Ak (blk_lt HBA.out) hk0.size))),fun b hb=>⟨Ad (((Ab _).drew.t ((Ab _).alloc _)).trans hk0).size hb.1,by rw [hsq];exact Ak hb.2 (Ab _).size,(fun b (hb:rng _ _ b) (e:b=_)=>absurd hb.1 (by rw [e];exact Nat.not_le.2 (Ak (blk_lt HBA.out) hk0.size))) b hb⟩⟩,(Ab _).drew.size,((((Ab _).drew.t ((Ab _).alloc _)).trans hk0).trans hk1).chg1 hcq (Ab _).drew.size⟩
   case rest=>
    obtain⟨gv,rfl,⟨p0,m0,d0,p1,m1,d1,S1,hbv,hov,hSv⟩,hvge,hxv⟩:=hcut
    obtain⟨wv,hwv⟩:∃ wv:World,wv=wc:=⟨_,rfl⟩
    subst hwv;have hgl:g<wr.heap.size:=blk_lt HGB.out;have hne:gv≠g:=by omega
    have HBV:=Ac hbv;clear hbv;have hG:=Aa hxv HGB.out;obtain⟨wt,hwt,hbt,hct,hszt⟩:=tr_set hG (.int .i64 cd) (.int .i64 z.kind) (.int .i64 z.src) (.int .i64 z.dst) ((.slice p0 m0 d0)) (.int .i64 z.pi) (.int .i64 z.hi) (.int .i64 z.beta) (.int .i64 z.rid) (.int .i64 z.seq) ((.slice p1 m1 d1));have HWT:=Ac hwt;have HBT:=Ac hbt;have HBW:=Ac (hct.other HBV.out hne);have hos2:=(hos.ext hxv).chg hct (fun kk hkk e=>absurd hkk (by rw [e];exact(hos.ext hxv).ne hG (by decide)));have how2:=An hov hct (fun b hb e=>by have h1:=(hSv b hb).1;omega);have hxt:=(hx.t hxv).chg1 hct hge;have hdis:∀ b,S1 b→(Value.slice os l.length cs).ownBlock≠some b:=fun b hb e=>by have h1:=(hSv b hb).1;have h2:=(hos.block b e).2;omega
    have hSt:∀ b,S1 b→(w.heap.size+1+1+1)≤b∧b<wt.heap.size∧(Value.slice os l.length cs).ownBlock≠some b:=fun b hb=>⟨by have h1:=(hSv b hb).1;omega,by have h1:=(hSv b hb).2.1;omega,hdis b hb⟩
    have hfg0:=fr_of hG 0;have hfg2:=fr_of hG 2;have hfg3:=fr_of hG 3;have hfg4:=fr_of hG 4;have hfg5:=fr_of hG 5;have hfg6:=fr_of hG 6;have hfg7:=fr_of hG 7;have hfg8:=fr_of hG 8;have hfg9:=fr_of hG 9;have hfg10:=fr_of hG 10;have hfg11:=fr_of hG 11;clear hwt hbt hG hszt
    try clear cf7
    try clear cf8
    try clear cf9
    try clear cf10
    have cf11:=blk2 (Aa ((hz1.t hx).t hxv) HB0.out.1);have cf12:=blk10 (Aa ((hz1.t hx).t hxv) HB0.out.2.1);have cf13:=blk12 (Aa ((hz1.t hx).t hxv) HB0.out.2.2);have cf14:=blk12 (Aa hxv HGB.out);have cf15:=blk12 HBV.out
    go_upto_region 10 with (fail)
    rw [← HWT.out];clear hfg0 hfg2 hfg3 hfg4 hfg5 hfg6 hfg7 hfg8 hfg9 hfg10 hfg11;clear cf11;clear cf12;clear cf13;clear cf14;clear cf15
    by_cases k0:cd=0
    ·
     subst k0;have cf16:=blk2 (Aa (hz1.t hxt) HB0.out.1);have cf17:=blk10 (Aa (hz1.t hxt) HB0.out.2.1);have cf18:=blk12 (Aa (hz1.t hxt) HB0.out.2.2);have cf19:=blk12 HBT.out;have cf20:=blk12 HBW.out
     go_wp2_with (at_builtin;go_loud (refine app1p E Bu rfl _ _ rfl (⟨rv,iv,eg⟩:Step) (Step.one _) rfl (Ay hos2 ((Ab _).alloc _)) rfl (by exact Au (Step.f (⟨rv,iv,eg⟩:Step)) (blk_new wt _)) (by omega) (by unfold maxLen;omega) (by exact(hxt.alloc _).size) ?_))
     intro v' w' ho' hg' hat;have hbt1:=own_ne (Ay hos2 ((Ab _).alloc _)) (Aa ((Ab _).alloc _) HBT.out) (by decide) hg';have hbw1:=own_ne (Ay hos2 ((Ab _).alloc _)) (Aa ((Ab _).alloc _) HBW.out) (by decide) hg';have hx1:=Ext.app (hxt.alloc _) hg' hos2 (Ae _);have how3:=An (Ba how2 ((Ab _).alloc _)) (Bn (S:=fun b=>(Value.slice os l.length cs).ownBlock=some b) hg' (fun _ h=>h)) (fun b hb e=>hdis b hb e);have hsz3:=hg'.size;simp only [nblk_alloc] at hsz3
     have hdis3:∀ b,S1 b→v'.ownBlock≠some b:=by
      intro b hb e
      rcases hat with h | h
      ·
       exact hdis b hb (h ▸ e)
      rw [h] at e;have h1:=(hSt b hb).2.1;simp only [Option.some.injEq] at e;omega
     obtain⟨on,cn,hve,_⟩:=(Bb (hf:=Bu) ho').shape;rw [show(l ++ [(⟨rv,iv,eg⟩:Step)]).length=l.length+1 from by simp] at hve;subst hve;clear hat hg';obtain⟨wq,hwq,hbq,hcq,hsq⟩:=cell_set hbt1 1 (.slice on (l.length+1) cn);simp only [List.setIfInBounds_toArray,List.set_cons_succ,List.set_cons_zero] at hbq;have HWQ:=Ac hwq;have HBQ:=Ac hbq;have HBR:=Ac (hcq.other hbw1 hne);have hos3:=ho'.chg hcq (fun kk hkk e=>absurd hkk (by rw [e];exact ho'.ne hbt1 (by decide)));have how4:=An how3 hcq (fun b hb e=>by have h1:=(hSv b hb).1;omega);have hxq:=hx1.chg1 hcq hge
     have hSq:∀ b,S1 b→(w.heap.size+1+1+1)≤b∧b<wq.heap.size∧(Value.slice on (l.length+1) cn).ownBlock≠some b:=fun b hb=>⟨(hSt b hb).1,by have h1:=(hSt b hb).2.1;omega,hdis3 b hb⟩
     have fg1:=fr_of hbt1 1;have ct1:=blk12 hbt1;have ct2:=blk12 hbw1;clear hbt1 hbw1 hwq hbq how3 ho' hx1 hsq hsz3
     go_upto_region 13 with (fail)
     rw [← HWQ.out];clear fg1 ct1 ct2
     try clear cf16
     try clear cf17
     try clear cf18
     try clear cf19
     try clear cf20
     have cf21:=blk2 (Aa (hz1.t hxq) HB0.out.1);have cf22:=blk10 (Aa (hz1.t hxq) HB0.out.2.1);have cf23:=blk12 (Aa (hz1.t hxq) HB0.out.2.2);have cf24:=blk12 HBQ.out;have cf25:=blk12 HBR.out
     go_wp2_with fail
     refine(s_RemoteEnd t _ _ rv eg _ (hk.ext ((hx0.t hz1).t hxq))).mono ?_;rintro e w2 ⟨rfl,hz2⟩
     try clear cf21
     try clear cf22
     try clear cf23
     try clear cf24
     try clear cf25
     have cf26:=blk2 (Aa ((hz1.t hxq).t hz2) HB0.out.1);have cf27:=blk10 (Aa ((hz1.t hxq).t hz2) HB0.out.2.1);have cf28:=blk12 (Aa ((hz1.t hxq).t hz2) HB0.out.2.2);have cf29:=blk12 (Aa hz2 HBQ.out);have cf30:=blk12 (Aa hz2 HBR.out)
     go_wp2_with fail
     go_roundg f0
     case measure=>rw [HF.out];exact Nat.lt_succ_self _
     case rel=>
      have hfv:=HF.out;refine⟨_,_,k+1,z,(l ++ [(⟨rv,iv,eg⟩:Step)]),rfl,rfl,by go_num,by omega,by omega,by omega,Ac (by rw [← trav_go HV.out,← HF.out];exact HTR.out),HZS,by simp;omega,?_,(hxq.t hz2)⟩;unfold TSt;rw [show(l ++ [(⟨rv,iv,eg⟩:Step)]).length=l.length+1 from by simp];exact⟨on,cn,p0,m0,d0,p1,m1,d1,S1,Aa hz2 HBQ.out,hos3.ext hz2,Ba how4 hz2,fun b hb=>⟨(hSq b hb).1,Ak (hSq b hb).2.1 hz2.size,by have h1:=(hSv b hb).1;omega,(hSq b hb).2.2⟩⟩
    by_cases k1:cd=1
    ·
     subst k1;have cf31:=blk2 (Aa (hz1.t hxt) HB0.out.1);have cf32:=blk10 (Aa (hz1.t hxt) HB0.out.2.1);have cf33:=blk12 (Aa (hz1.t hxt) HB0.out.2.2);have cf34:=blk12 HBT.out;have cf35:=blk12 HBW.out
     go_wp2_with (at_builtin;go_loud (refine app1p E Bu rfl _ _ rfl (⟨rv,iv,eg⟩:Step) (Step.one _) rfl (Ay hos2 ((Ab _).alloc _)) rfl (by exact Au (Step.f (⟨rv,iv,eg⟩:Step)) (blk_new wt _)) (by omega) (by unfold maxLen;omega) (by exact(hxt.alloc _).size) ?_))
     intro v' w' ho' hg' hat;have hbt1:=own_ne (Ay hos2 ((Ab _).alloc _)) (Aa ((Ab _).alloc _) HBT.out) (by decide) hg';have hbw1:=own_ne (Ay hos2 ((Ab _).alloc _)) (Aa ((Ab _).alloc _) HBW.out) (by decide) hg';have hx1:=Ext.app (hxt.alloc _) hg' hos2 (Ae _);have how3:=An (Ba how2 ((Ab _).alloc _)) (Bn (S:=fun b=>(Value.slice os l.length cs).ownBlock=some b) hg' (fun _ h=>h)) (fun b hb e=>hdis b hb e);have hsz3:=hg'.size;simp only [nblk_alloc] at hsz3
     have hdis3:∀ b,S1 b→v'.ownBlock≠some b:=by
      intro b hb e
      rcases hat with h | h
      ·
       exact hdis b hb (h ▸ e)
      rw [h] at e;have h1:=(hSt b hb).2.1;simp only [Option.some.injEq] at e;omega
     obtain⟨on,cn,hve,_⟩:=(Bb (hf:=Bu) ho').shape;rw [show(l ++ [(⟨rv,iv,eg⟩:Step)]).length=l.length+1 from by simp] at hve;subst hve;clear hat hg';obtain⟨wq,hwq,hbq,hcq,hsq⟩:=cell_set hbt1 1 (.slice on (l.length+1) cn);simp only [List.setIfInBounds_toArray,List.set_cons_succ,List.set_cons_zero] at hbq;have HWQ:=Ac hwq;have HBQ:=Ac hbq;have HBR:=Ac (hcq.other hbw1 hne);have hos3:=ho'.chg hcq (fun kk hkk e=>absurd hkk (by rw [e];exact ho'.ne hbt1 (by decide)));have how4:=An how3 hcq (fun b hb e=>by have h1:=(hSv b hb).1;omega);have hxq:=hx1.chg1 hcq hge
     have hSq:∀ b,S1 b→(w.heap.size+1+1+1)≤b∧b<wq.heap.size∧(Value.slice on (l.length+1) cn).ownBlock≠some b:=fun b hb=>⟨(hSt b hb).1,by have h1:=(hSt b hb).2.1;omega,hdis3 b hb⟩
     have fg1:=fr_of hbt1 1;have ct1:=blk12 hbt1;have ct2:=blk12 hbw1;clear hbt1 hbw1 hwq hbq how3 ho' hx1 hsq hsz3
     go_upto_region 13 with (fail)
     rw [← HWQ.out];clear fg1 ct1 ct2
     try clear cf31
     try clear cf32
     try clear cf33
     try clear cf34
     try clear cf35
     have HE:Hid ((traverse t now dead x)=⟨1,(l ++ [(⟨rv,iv,eg⟩:Step)]),z⟩):=Ac (by rw [← HTR.out,HF.out];exact trav_del HV.out);have OT:=Ac (Trc.own_of (cd:=1) (lo:=(w.heap.size+1+1+1)) hos3 how4 hs1 hSq);have hR:=Aa (hz1.t hxq) HB0.out.2.2;obtain⟨wc,hwc,hrc,hcc,hsc⟩:=vd_set hR (.int .i64 1) ((.slice on (l.length+1) cn)) (.int .i64 z.kind) (.int .i64 z.src) (.int .i64 z.dst) ((.slice p0 m0 d0)) (.int .i64 z.pi) (.int .i64 z.hi) (.int .i64 z.beta) (.int .i64 z.rid) (.int .i64 z.seq) ((.slice p1 m1 d1));have HOW:=Ac (Trc.own_kept OT.out hcc (fun b hb e=>by have h1:=hb.1;omega));have HXX:=Ac (((hx0.t hz1).t hxq).chg1 hcc (by omega));have HWC:=Ac hwc;have HRC:=Ac hrc;have hsz2:wq.heap.size=wc.heap.size:=by rw [hsc]
     have gr0:=fr12 hR;clear hR hwc hrc hcc hsc;have cf36:=blk2 (Aa (hz1.t hxq) HB0.out.1);have cf37:=blk10 (Aa (hz1.t hxq) HB0.out.2.1);have cf38:=blk12 (Aa (hz1.t hxq) HB0.out.2.2);have cf39:=blk12 HBQ.out;have cf40:=blk12 HBR.out
     go_wp2_with fail
     rw [← HWC.out];clear gr0 cf36 cf37 cf38 cf39 cf40;have cc:=blk12 HRC.out;refine bodyPost_ret (by simp [results,Tryz.results13,go_sem,cc] <;> rfl) rfl ?_;rw [HE.out];exact⟨_,_,_,rfl,Trc.own_mono HOW.out (fun b hb=>⟨by have h1:=hb.1;omega,by have h2:=hb.2;omega⟩),HXX.out⟩
    have HE:Hid ((traverse t now dead x)=⟨cd,l,z⟩):=Ac (by rw [← HTR.out,HF.out];exact trav_bad HV.out k0 k1);have k2:1<cd:=by have:=HNN.out;omega
    have k5:(cd == 0)=false:=by rw [beq_eq_false_iff_ne];exact k0
    have k6:(cd != 0)=true:=by simp only [bne,k5];rfl
    have k7:(cd == 1)=false:=by rw [beq_eq_false_iff_ne];exact k1
    have k8:(cd != 1)=true:=by simp only [bne,k7];rfl
    have OT:=Ac (Trc.own_of (cd:=cd) (lo:=(w.heap.size+1+1+1)) hos2 how2 hs1 hSt);have hR:=Aa (hz1.t hxt) HB0.out.2.2;obtain⟨wc,hwc,hrc,hcc,hsc⟩:=vd_set hR (.int .i64 cd) ((.slice os l.length cs)) (.int .i64 z.kind) (.int .i64 z.src) (.int .i64 z.dst) ((.slice p0 m0 d0)) (.int .i64 z.pi) (.int .i64 z.hi) (.int .i64 z.beta) (.int .i64 z.rid) (.int .i64 z.seq) ((.slice p1 m1 d1));have HOW:=Ac (Trc.own_kept OT.out hcc (fun b hb e=>by have h1:=hb.1;omega));have HXX:=Ac (((hx0.t hz1).t hxt).chg1 hcc (by omega));have HWC:=Ac hwc;have HRC:=Ac hrc;have hsz2:wt.heap.size=wc.heap.size:=by rw [hsc]
    have gr0:=fr12 hR;clear hR hwc hrc hcc hsc;have cf41:=blk2 (Aa (hz1.t hxt) HB0.out.1);have cf42:=blk10 (Aa (hz1.t hxt) HB0.out.2.1);have cf43:=blk12 (Aa (hz1.t hxt) HB0.out.2.2);have cf44:=blk12 HBT.out;have cf45:=blk12 HBW.out
    go_wp2_with fail
    rw [← HWC.out];clear gr0 cf41 cf42 cf43 cf44 cf45;have cc:=blk12 HRC.out;refine bodyPost_ret (by simp [results,Tryz.results13,go_sem,cc] <;> rfl) rfl ?_;rw [HE.out];exact⟨_,_,_,rfl,Trc.own_mono HOW.out (fun b hb=>⟨by have h1:=hb.1;omega,by have h2:=hb.2;omega⟩),HXX.out⟩
  have k10:¬ (k:Int)<30:=by omega
  have hg0:gk=0:=by omega
  have HE:Hid ((traverse t now dead x)=⟨0,l,y⟩):=Ac (by rw [← HTR.out,hg0];rfl)
  have hSt:∀ b,S0 b→(w.heap.size+1+1+1)≤b∧b<wr.heap.size∧(Value.slice os l.length cs).ownBlock≠some b:=fun b hb=>⟨(hS b hb).1,(hS b hb).2.1,(hS b hb).2.2.2⟩
  have OT:=Ac (Trc.own_of (cd:=0) (lo:=(w.heap.size+1+1+1)) hos hown hs1 hSt);have hR:=Aa (hz1.t hx) HB0.out.2.2;obtain⟨wc,hwc,hrc,hcc,hsc⟩:=vd_set hR (.int .i64 0) ((.slice os l.length cs)) (.int .i64 y.kind) (.int .i64 y.src) (.int .i64 y.dst) ((.slice o0 n0 c0)) (.int .i64 y.pi) (.int .i64 y.hi) (.int .i64 y.beta) (.int .i64 y.rid) (.int .i64 y.seq) ((.slice o1 n1 c1));have HOW:=Ac (Trc.own_kept OT.out hcc (fun b hb e=>by have h1:=hb.1;omega));have HXX:=Ac (((hx0.t hz1).t hx).chg1 hcc (by omega));have HWC:=Ac hwc;have HRC:=Ac hrc;have hsz2:wr.heap.size=wc.heap.size:=by rw [hsc]
  have gr0:=fr12 hR;clear hR hwc hrc hcc hsc;have cf46:=blk2 (Aa (hz1.t hx) HB0.out.1);have cf47:=blk10 (Aa (hz1.t hx) HB0.out.2.1);have cf48:=blk12 (Aa (hz1.t hx) HB0.out.2.2);have cf49:=blk12 HGB.out
  go_wp2_with fail
  rw [← HWC.out];clear gr0 cf46 cf47 cf48 cf49;have cc:=blk12 HRC.out;refine bodyPost_ret (by simp [results,Tryz.results13,go_sem,cc] <;> rfl) rfl ?_;rw [HE.out];exact⟨_,_,_,rfl,Trc.own_mono HOW.out (fun b hb=>⟨by have h1:=hb.1;omega,by have h2:=hb.2;omega⟩),HXX.out⟩
end
end Go.Proofs.YteodlcpeoaggbaaGreat
