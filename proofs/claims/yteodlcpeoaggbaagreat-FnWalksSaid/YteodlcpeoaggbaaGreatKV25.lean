/- What these laws need: FnOld, FnWalks: Contracts of whether a path leads to its end, program and reference. -/
import Derived.Test.YteodlcpeoaggbaaGreatKV24
namespace Go.Proofs.YteodlcpeoaggbaaGreat
section
open Go.ChangeShapes Go.WideShapes Go.ChangeAt Go.RowKit Go.Deep
def reaches (t:Topo) (now:Int) (dead:List Int) (p:Pth):Bool:=(traverse t now dead (newPkt 1 p 0 0 [])).code == 1
set_option maxRecDepth 100000 in
set_option maxHeartbeats 4000000 in
theorem i_Reaches (t:Topo) (va vk:Value) (now:Int) (dead:List Int) (vd:Value) (p:Pth) (v:Value) (w:World) (ha:RdS ASd.rep w va t.ases) (hk:RdS Lnk.rep w vk t.links) (hd:RdS Rep.int w vd dead) (r:RdS Part.rep w v p.parts) (ht:t.size≤1048576) (hl:p.size≤1048576) :
  Calls Tryz.prog 27 #[.agg #[va,vk],.int .i64 now,vd,.agg #[v]] w fun e w'=>e=.returned (.bool (reaches t now dead p))∧Ext w w':=by
 obtain⟨o,cap,rfl,hsm⟩:=r.shape;obtain⟨od,cdd,rfl,_⟩:=hd.shape;have hl2:(newPkt 1 p 0 0 []).size≤1048576:=by rw [newPkt_size];simpa using hl
 obtain⟨hx0,HB0⟩:=ea2 w (.cells #[va,vk] 27) (.cells #[.slice o p.parts.length cap] 30);replace HB0:=Ac HB0
 go_enter Tryz.func27,Tryz.ntmps27
 have cf1:=blk2 HB0.out.1;have cf2:=blk1 HB0.out.2
 go_wp2_with fail
 refine Ax (.blk [0,1,2,3] (.one 4 (.one 5 (.blk [6,7,8] .done)))) [] (by kernel_rfl) (by kernel_rfl) ?_
 try clear cf1
 try clear cf2
 have cf3:=blk2 (Aa ((Ab _).drew) HB0.out.1);have cf4:=blk1 (Aa ((Ab _).drew) HB0.out.2);refine blkStep (fun K HK=>?_);simp only [PK]
 go_wp2_with fail
 refine HK.out _ _ ?_;clear HK K;refine oneStep (fun K HK=>?_);simp only [PK]
 go_wp2_with fail
 refine(i_NewPacket 1 p _ 0 0 [] _ _ (r.ext (hx0.t ((Ab _).drew))) (Bb (hf:=byteFlen) (OwnF.nil byteF 1 0 5 _)) hl (by simp)).mono ?_;rintro e w1 ⟨u0,u1,rfl,ou,hz1⟩
 try clear cf3
 try clear cf4
 have cf5:=blk2 (Aa (((Ab _).drew).t hz1) HB0.out.1);have cf6:=blk1 (Aa (((Ab _).drew).t hz1) HB0.out.2)
 go_wp2_with fail
 refine HK.out _ _ hz1 ?_;clear HK K;refine oneStep (fun K HK=>?_);simp only [PK]
 go_wp2_with fail
 refine(i_Traverse t _ _ now dead _ (newPkt 1 p 0 0 []) _ _ _ (ha.ext ((hx0.t ((Ab _).drew)).t hz1)) (hk.ext ((hx0.t ((Ab _).drew)).t hz1)) (hd.ext ((hx0.t ((Ab _).drew)).t hz1)) (As ou) (At ou) ht hl2).mono ?_;rintro e w2 ⟨x0,x1,x2,rfl,oo,hz2⟩;generalize htr:traverse t now dead (newPkt 1 p 0 0 [])=tr at *;have HTR:=Ac htr;clear htr;obtain⟨b0,d0,rfl,_⟩:=(Trc.own_rd0 oo).shape;obtain⟨b1,d1,rfl,_⟩:=(Trc.own_rd1 oo).shape;obtain⟨b2,d2,rfl,_⟩:=(Trc.own_rd2 oo).shape;have hfd:∀ w:World,(Instr.field 40 (.agg #[.int .i64 tr.code,.slice b0 tr.steps.length d0,.int .i64 tr.pkt.kind,.int .i64 tr.pkt.src,.int .i64 tr.pkt.dst,.slice b1 tr.pkt.path.parts.length d1,.int .i64 tr.pkt.pi,.int .i64 tr.pkt.hi,.int .i64 tr.pkt.beta,.int .i64 tr.pkt.rid,.int .i64 tr.pkt.seq,.slice b2 tr.pkt.pay.length d2]) 0).run Tryz.prog w=.ok (.int .i64 tr.code) w:=fun _=>by kernel_rfl
 try clear cf5
 try clear cf6
 have cf7:=blk2 (Aa ((((Ab _).drew).t hz1).t hz2) HB0.out.1);have cf8:=blk1 (Aa ((((Ab _).drew).t hz1).t hz2) HB0.out.2)
 go_wp2_with fail
 refine HK.out _ _ hz2 ?_;clear HK K;refine blkStep (fun K HK=>?_);simp only [PK]
 go_wp2_with fail
 refine HK.out _ _ ?_;clear HK K;refine Ap (by kernel_rfl) ?_
 go_wp2_with fail
 go_ret
 exact⟨Ah (by unfold reaches;rw [HTR.out]),(((hx0.t ((Ab _).drew)).t hz1).t hz2)⟩
end
end Go.Proofs.YteodlcpeoaggbaaGreat
