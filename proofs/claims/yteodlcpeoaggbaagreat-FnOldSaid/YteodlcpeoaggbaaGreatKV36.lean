/- What these laws need: FnOld: Contracts of whether a path leads to its end, program and reference. Contracts of the paths that lead to their ends, program and reference. -/
import Derived.Deep.LoopGhost
import Derived.Test.YteodlcpeoaggbaaGreatKV25
import Derived.Test.YteodlcpeoaggbaaGreatKV28
namespace Go.Proofs.YteodlcpeoaggbaaGreat
section
open Go.ChangeShapes Go.WideShapes Go.ChangeAt Go.RowKit Go.Deep
set_option maxRecDepth 100000
set_option maxHeartbeats 4000000
theorem s_Reaches (t:Topo) (va vk:Value) (now:Int) (dead:List Int) (vd:Value) (p:Pth) (v:Value) (w:World) (ha:RdS ASd.rep w va t.ases) (hk:RdS Lnk.rep w vk t.links) (hd:RdS Rep.int w vd dead) (r:RdS Part.rep w v p.parts) (ht:t.size≤1048576) (hl:p.size≤1048576) :
  Calls Tryz.prog 33 #[.agg #[va,vk],.int .i64 now,vd,.agg #[v]] w fun e w'=>e=.returned (.bool (reaches t now dead p))∧Ext w w':=by
 obtain⟨o,cap,rfl,hsm⟩:=r.shape;obtain⟨od,cdd,rfl,_⟩:=hd.shape;have hl2:(newPkt 1 p 0 0 []).size≤1048576:=by rw [newPkt_size];simpa using hl
 obtain⟨hx0,HB0⟩:=ea2 w (.cells #[va,vk] 27) (.cells #[.slice o p.parts.length cap] 30);replace HB0:=Ac HB0
 go_enter Tryz.func33,Tryz.ntmps33
 have cf1:=blk2 HB0.out.1;have cf2:=blk1 HB0.out.2
 go_wp2_with fail
 refine Ax (.blk [0,1,2,3] (.one 4 (.one 5 (.one 6 (.blk [7,8,9] .done))))) [] (by kernel_rfl) (by kernel_rfl) ?_
 try clear cf1
 try clear cf2
 have cf3:=blk2 (Aa ((Ab _).drew) HB0.out.1);have cf4:=blk1 (Aa ((Ab _).drew) HB0.out.2);refine blkStep (fun K HK=>?_);simp only [PK]
 go_wp2_with fail
 refine HK.out _ _ ?_;clear HK K;refine oneStep (fun K HK=>?_);simp only [PK]
 go_wp2_with fail
 refine HK.out _ _ ((Ab _).alloc _) ?_;clear HK K;refine oneStep (fun K HK=>?_);simp only [PK]
 go_wp2_with fail
 refine(s_NewPacket 1 p _ 0 0 [] _ _ (r.ext ((hx0.t ((Ab _).drew)).t ((Ab _).alloc _))) (by exact Bb (f:=byteF) (n:=1) (base:=0) (e:=5) (hf:=byteFlen) (Cg (by simp) (Nat.zero_le _))) hl (by simp)).mono ?_;rintro e w1 ⟨u0,u1,rfl,ou,hz1⟩
 try clear cf3
 try clear cf4
 have cf5:=blk2 (Aa ((((Ab _).drew).t ((Ab _).alloc _)).t hz1) HB0.out.1);have cf6:=blk1 (Aa ((((Ab _).drew).t ((Ab _).alloc _)).t hz1) HB0.out.2)
 go_wp2_with fail
 refine HK.out _ _ hz1 ?_;clear HK K;refine oneStep (fun K HK=>?_);simp only [PK]
 go_wp2_with fail
 refine(s_Traverse t _ _ now dead _ (newPkt 1 p 0 0 []) _ _ _ (ha.ext (((hx0.t ((Ab _).drew)).t ((Ab _).alloc _)).t hz1)) (hk.ext (((hx0.t ((Ab _).drew)).t ((Ab _).alloc _)).t hz1)) (hd.ext (((hx0.t ((Ab _).drew)).t ((Ab _).alloc _)).t hz1)) (As ou) (At ou) ht hl2).mono ?_;rintro e w2 ⟨x0,x1,x2,rfl,oo,hz2⟩;generalize htr:traverse t now dead (newPkt 1 p 0 0 [])=tr at *;have HTR:=Ac htr;clear htr;obtain⟨b0,d0,rfl,_⟩:=(Trc.own_rd0 oo).shape;obtain⟨b1,d1,rfl,_⟩:=(Trc.own_rd1 oo).shape;obtain⟨b2,d2,rfl,_⟩:=(Trc.own_rd2 oo).shape;have hfd:∀ w:World,(Instr.field 40 (.agg #[.int .i64 tr.code,.slice b0 tr.steps.length d0,.int .i64 tr.pkt.kind,.int .i64 tr.pkt.src,.int .i64 tr.pkt.dst,.slice b1 tr.pkt.path.parts.length d1,.int .i64 tr.pkt.pi,.int .i64 tr.pkt.hi,.int .i64 tr.pkt.beta,.int .i64 tr.pkt.rid,.int .i64 tr.pkt.seq,.slice b2 tr.pkt.pay.length d2]) 0).run Tryz.prog w=.ok (.int .i64 tr.code) w:=fun _=>by kernel_rfl
 try clear cf5
 try clear cf6
 have cf7:=blk2 (Aa (((((Ab _).drew).t ((Ab _).alloc _)).t hz1).t hz2) HB0.out.1);have cf8:=blk1 (Aa (((((Ab _).drew).t ((Ab _).alloc _)).t hz1).t hz2) HB0.out.2)
 go_wp2_with fail
 refine HK.out _ _ hz2 ?_;clear HK K;refine blkStep (fun K HK=>?_);simp only [PK]
 go_wp2_with fail
 refine HK.out _ _ ?_;clear HK K;refine Ap (by kernel_rfl) ?_
 go_wp2_with fail
 go_ret
 exact⟨Ah (by unfold reaches;rw [HTR.out]),((((hx0.t ((Ab _).drew)).t ((Ab _).alloc _)).t hz1).t hz2)⟩
def wpIdx (f:Pth→Bool) (l:List Pth):Nat→List Int
 | 0 => []
 | k + 1 => (match l[k]? with | some p => if f p then wpIdx f l k ++ [(k : Int)] else wpIdx f l k | none => wpIdx f l k)
def workPaths (t:Topo) (now:Int) (dead:List Int) (l:List Pth):List Int:=wpIdx (reaches t now dead) l l.length
theorem wpIdx_yes {f:Pth→Bool} {l:List Pth} {k:Nat} (hk:k<l.length) (h:f l[k]=true):wpIdx f l (k+1)=wpIdx f l k ++ [(k:Int)]:=by simp [wpIdx,hk,h]
theorem wpIdx_no {f:Pth→Bool} {l:List Pth} {k:Nat} (hk:k<l.length) (h:f l[k]=false):wpIdx f l (k+1)=wpIdx f l k:=by simp [wpIdx,hk,h]
theorem i_WorkingPaths (t:Topo) (va vk:Value) (now:Int) (dead:List Int) (vd:Value) (ps:List Pth) (v:Value) (w:World) (ha:RdS ASd.rep w va t.ases) (hk:RdS Lnk.rep w vk t.links) (hd:RdS Rep.int w vd dead) (rp:RdS Pth.rep w v ps) (ht:t.size≤1048576) (hl:pthsN ps≤1048576) :
  Calls Tryz.prog 30 #[.agg #[va,vk],.int .i64 now,vd,v] w fun e w'=>∃ v',e=.returned v'∧OwnF intF 1 w.heap.size 3 w' v' (workPaths t now dead ps)∧Ext w w':=by
 obtain⟨E⟩:=elemInt;obtain⟨o,cap,rfl,hsm⟩:=rp.shape;obtain⟨od,cdd,rfl,_⟩:=hd.shape;unfold pthsN at hl;have HTI:=Ac (show workPaths t now dead ps=wpIdx (reaches t now dead) ps ps.length from rfl);obtain⟨hx0,HB0⟩:=ea1 w (.cells #[va,vk] 27);replace HB0:=Ac HB0
 go_enter Tryz.func30,Tryz.ntmps30
 have cf1:=blk2 HB0.out
 go_wp2_with fail
 clear cf1
 go_loopg [9,14] ps.length (fun gk out i wr=>∃ (k:Nat) (xs:List Int),gk+k=ps.length∧i=.int .i64 k∧Hid (xs=wpIdx (reaches t now dead) ps k)∧xs.length≤k∧OwnF intF 1 (w.heap.size+1) 3 wr out xs∧Ext (w.alloc (.cells #[va,vk] 27)) wr)
 case atStart=>exact⟨0,[],rfl,rfl,Ac rfl,Ae _,OwnF.nil _ _ _ _ _,Ab _⟩
 case round=>
  obtain⟨k,xs,hgk,rfl,HX,hxl,hown,hx⟩:=hrel
  by_cases hlt:k<ps.length
  ·
   obtain⟨b,off,oh,ch,rfl,hc,hr⟩:=Pth.at ((rp.ext (hx0.t hx))) k hlt;have hle:=pszN_le hlt;have hg0:gk - 1+(k+1)=ps.length∧gk - 1<gk:=by omega
   have HG:=Ac hg0;clear hg0 hgk;obtain⟨hxb,HBP⟩:=ea1 wr (.cells #[.slice oh ps[k].parts.length ch] 30);replace HBP:=Ac HBP;have cf2:=blk2 (Aa (hx.t hxb) HB0.out);have cf3:=blk1 HBP.out
   go_wp2_with fail
   refine(i_Reaches t _ _ now dead _ ps[k] _ _ (ha.ext ((hx0.t hx).t hxb)) (hk.ext ((hx0.t hx).t hxb)) (hd.ext ((hx0.t hx).t hxb)) (hr.ext hxb) ht (by omega)).mono ?_;rintro e w1 ⟨rfl,hz1⟩
   cases hre:reaches t now dead ps[k]
   case true=>
    have HN:=Ac (wpIdx_yes hlt hre);have hb1:=Ay hown (hxb.t hz1)
    go_wp2_with (at_builtin;refine app1 E intFlen intOne rfl _ _ rfl (k:Int) rfl (Ay hb1 ((Ab _).alloc _)) rfl (by exact Au (intF (k:Int)) (blk_new w1 _)) (by omega) (by unfold maxLen;omega) (by have h1:=((hx.t hxb).t hz1).size;simp at h1 ⊢;omega) ?_)
    intro v' w' ho' hg';have hx':=(((hx.t hxb).t hz1).alloc (.cells #[.int .i64 k] 3)).app hg' hb1 (by simp);clear hg'
    go_wp2_with fail
    go_roundg (gk - 1)
    case measure=>exact HG.out.2
    case rel=>exact⟨k+1,_,HG.out.1,by go_num,Ac (by rw [HN.out,← HX.out]),by simp;omega,ho',hx'⟩
   case false=>
    have HN:=Ac (wpIdx_no hlt hre)
    go_wp2_with fail
    go_roundg (gk - 1)
    case measure=>exact HG.out.2
    case rel=>exact⟨k+1,_,HG.out.1,by go_num,Ac (by rw [HN.out,← HX.out]),by omega,hown.ext (hxb.t hz1),((hx.t hxb).t hz1)⟩
  have HXS:=Ac (show xs=workPaths t now dead ps by have h:=HX.out;rw [show k=ps.length from by omega] at h;exact h)
  go_wp2_with fail
  go_ret
  rw [← HXS.out];exact⟨_,rfl,hown.mono (Nat.le_succ _),(hx0.t hx)⟩
theorem s_WorkingPaths (t:Topo) (va vk:Value) (now:Int) (dead:List Int) (vd:Value) (ps:List Pth) (v:Value) (w:World) (ha:RdS ASd.rep w va t.ases) (hk:RdS Lnk.rep w vk t.links) (hd:RdS Rep.int w vd dead) (rp:RdS Pth.rep w v ps) (ht:t.size≤1048576) (hl:pthsN ps≤1048576) :
  Calls Tryz.prog 32 #[.agg #[va,vk],.int .i64 now,vd,v] w fun e w'=>∃ v',e=.returned v'∧OwnF intF 1 w.heap.size 3 w' v' (workPaths t now dead ps)∧Ext w w':=by
 obtain⟨E⟩:=elemInt;obtain⟨o,cap,rfl,hsm⟩:=rp.shape;obtain⟨od,cdd,rfl,_⟩:=hd.shape;unfold pthsN at hl;have HTI:=Ac (show workPaths t now dead ps=wpIdx (reaches t now dead) ps ps.length from rfl);obtain⟨hx0,HB0⟩:=ea1 w (.cells #[va,vk] 27);replace HB0:=Ac HB0
 go_enter Tryz.func32,Tryz.ntmps32
 have cf1:=blk2 HB0.out
 go_wp2_with fail
 clear cf1
 go_loopg [9,10] ps.length (fun gk out i wr=>∃ (k:Nat) (xs:List Int),gk+k=ps.length∧i=.int .i64 k∧Hid (xs=wpIdx (reaches t now dead) ps k)∧xs.length≤k∧OwnF intF 1 (w.heap.size+1) 3 wr out xs∧Ext (w.alloc (.cells #[va,vk] 27)) wr)
 case atStart=>exact⟨0,[],rfl,rfl,Ac rfl,Ae _,Cg (by simp) (Ae _),(Ab _).alloc _⟩
 case round=>
  obtain⟨k,xs,hgk,rfl,HX,hxl,hown,hx⟩:=hrel
  by_cases hlt:k<ps.length
  ·
   obtain⟨b,off,oh,ch,rfl,hc,hr⟩:=Pth.at ((rp.ext (hx0.t hx))) k hlt;have hle:=pszN_le hlt;have hg0:gk - 1+(k+1)=ps.length∧gk - 1<gk:=by omega
   have HG:=Ac hg0;clear hg0 hgk;have cf2:=blk2 (Aa hx HB0.out)
   go_wp2_with fail
   refine Ax (.blk [0,1,2,3,4,5,6] (.one 7 .done)) [] (by kernel_rfl) (by kernel_rfl) ?_
   try clear cf2
   have cf3:=blk2 (Aa (hx.t ((Ab _).drew)) HB0.out);refine blkStep (fun K HK=>?_);simp only [PK]
   go_wp2_with fail
   refine HK.out _ _ ?_;clear HK K;refine oneStep (fun K HK=>?_);simp only [PK]
   go_wp2_with fail
   refine(s_Reaches t _ _ now dead _ ps[k] _ _ (ha.ext ((hx0.t hx).t ((Ab _).drew))) (hk.ext ((hx0.t hx).t ((Ab _).drew))) (hd.ext ((hx0.t hx).t ((Ab _).drew))) (hr.ext ((Ab _).drew)) ht (by omega)).mono ?_;rintro e w1 ⟨rfl,hz1⟩
   try clear cf3
   have cf4:=blk2 (Aa ((hx.t ((Ab _).drew)).t hz1) HB0.out)
   go_wp2_with fail
   refine HK.out _ _ hz1 ?_;clear HK K;refine Ap (by kernel_rfl) ?_
   cases hre:reaches t now dead ps[k]
   case true=>
    have HN:=Ac (wpIdx_yes hlt hre);have hb1:=Ay hown (((Ab _).drew).t hz1)
    go_wp2_with (at_builtin;refine app1 E intFlen intOne rfl _ _ rfl (k:Int) rfl (Ay hb1 ((Ab _).alloc _)) rfl (by exact Au (intF (k:Int)) (blk_new w1 _)) (by omega) (by unfold maxLen;omega) (by have h1:=((hx.t ((Ab _).drew)).t hz1).size;simp at h1 ⊢;omega) ?_)
    intro v' w' ho' hg';have hx':=(((hx.t ((Ab _).drew)).t hz1).alloc (.cells #[.int .i64 k] 3)).app hg' hb1 (by simp);clear hg'
    go_wp2_with fail
    go_roundg (gk - 1)
    case measure=>exact HG.out.2
    case rel=>exact⟨k+1,_,HG.out.1,by go_num,Ac (by rw [HN.out,← HX.out]),by simp;omega,ho',hx'⟩
   case false=>
    have HN:=Ac (wpIdx_no hlt hre)
    go_wp2_with fail
    go_roundg (gk - 1)
    case measure=>exact HG.out.2
    case rel=>exact⟨k+1,_,HG.out.1,by go_num,Ac (by rw [HN.out,← HX.out]),by omega,hown.ext (((Ab _).drew).t hz1),((hx.t ((Ab _).drew)).t hz1)⟩
  have HXS:=Ac (show xs=workPaths t now dead ps by have h:=HX.out;rw [show k=ps.length from by omega] at h;exact h)
  go_wp2_with fail
  go_ret
  rw [← HXS.out];exact⟨_,rfl,hown.mono (Nat.le_succ _),(hx0.t hx)⟩
end
end Go.Proofs.YteodlcpeoaggbaaGreat
