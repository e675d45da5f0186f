/- What these laws need: FnOld, FnWalks: Contracts of the steps of a path, program and reference. -/
import Derived.Test.YteodlcpeoaggbaaGreatKV3
namespace Go.Proofs.YteodlcpeoaggbaaGreat
section
open Go.ChangeShapes Go.WideShapes Go.ChangeAt Go.RowKit Go.Deep
set_option maxRecDepth 100000
set_option maxHeartbeats 8000000
theorem i_PathSteps (x:Pth) (v:Value) (w:World) (r:RdS Part.rep w v x.parts) (hl:x.size≤1048576) :
  Calls Tryz.prog 26 #[.agg #[v]] w fun e w'=>∃ v',e=.returned v'∧OwnF Step.f 3 w.heap.size 79 w' v' (pathSteps x.parts)∧Ext w w':=by
 obtain⟨ps⟩:=x;unfold Pth.size at hl;dsimp only at r hl ⊢
 obtain⟨o,cap,rfl,hsm⟩:=r.shape;obtain⟨E⟩:=elemStp;have hx0:Ext w (w.alloc (.cells #[.slice o ps.length cap] 30)):=(Ab _).alloc _
 go_enter Tryz.func26,Tryz.ntmps26
 go_wp2
 go_loopg [3,12] ps.length (fun gk out i wr=>∃ k:Nat,gk+k=ps.length∧i=.int .i64 k∧OwnF Step.f 3 w.heap.size 79 wr out (partsTo ps k)∧Ext w wr)
 case atStart=>exact⟨0,rfl,rfl,OwnF.nil _ _ _ _ _,hx0⟩
 case round=>
  obtain⟨k,hgk,rfl,hown,hx⟩:=hrel
  obtain⟨wo,rfl⟩:∃ wo:World,wo=wr:=⟨_,rfl⟩
  obtain⟨go,rfl⟩:∃ g:Nat,g=gk:=⟨_,rfl⟩
  have hpl:=partsTo_len ps k (by omega);have htl:=hopsN_take_le ps (k+1)
  by_cases hlt:k<ps.length
  ·
   obtain⟨b,off,oh,ch,rfl,hc,hr⟩:=Bx r k hlt;have hcx:=Ag hx hc;have hsn:=hopsN_snoc hlt;have hbd:hopsN (ps.take k)+ps[k].hops.length≤1048576:=by omega
   have hgk':go - 1+(k+1)=ps.length∧go - 1<go:=by omega
   have HGK:=Ac hgk';clear hgk' hgk hsn htl hc;have hxa:Ext w (wo.alloc (.cells #[.int .i64 ps[k].kind,.int .i64 ps[k].ts,.int .i64 ps[k].beta,.slice oh ps[k].hops.length ch] 99)):=hx.alloc _;have hB:=blk_new wo (.cells #[.int .i64 ps[k].kind,.int .i64 ps[k].ts,.int .i64 ps[k].beta,.slice oh ps[k].hops.length ch] 99);have HB:=Ac hB;clear hB;have hsz:ps[k].hops.length≤9223372036854775807:=hr.small
   go_wp2
   go_loopg [3,20] ps[k].hops.length (fun gj out i wi=>∃ j:Nat,gj+j=ps[k].hops.length∧i=.int .i64 j∧OwnF Step.f 3 w.heap.size 79 wi out (hopsTo (decide (0<k)) ps[k].kind (partsTo ps k) ps[k].hops j)∧Hid (wi.heap[wo.heap.size]?=some (.cells #[.int .i64 ps[k].kind,.int .i64 ps[k].ts,.int .i64 ps[k].beta,.slice oh ps[k].hops.length ch] 99))∧Ext w wi)
   case atStart=>exact⟨0,rfl,rfl,hown.ext ((Ab _).alloc _),HB,hxa⟩
   case round=>
    obtain⟨j,hgj,rfl,hownj,HBj,hxj⟩:=hrel;have hol:=hopsTo_len (decide (0<k)) ps[k].kind (partsTo ps k) ps[k].hops j;obtain⟨oo,cc,rfl,hso⟩:=(Bb (hf:=Bu) hownj).shape
    by_cases hlj:j<ps[k].hops.length
    ·
     obtain⟨b2,off2,rfl,hc2⟩:=Ca (hr.ext hxj) j hlj;have hst:=hopsTo_succ (m:=decide (0<k)) (k:=ps[k].kind) (out:=partsTo ps k) hlj;have HST:=Ac hst;clear hst;have hgj':gk - 1+(j+1)=ps[k].hops.length∧gk - 1<gk:=by omega
     have HGJ:=Ac hgj';clear hgj' hgj;generalize hout:hopsTo (decide (0<k)) ps[k].kind (partsTo ps k) ps[k].hops j=out at *;clear hout
     have hHb:=blk_new wr (.cells #[.int .i64 ps[k].hops[j].asn,.int .i64 ps[k].hops[j].ing,.int .i64 ps[k].hops[j].eg,.int .i64 ps[k].hops[j].exp,.int .i64 ps[k].hops[j].mac] 103);have HHB:=Ac hHb;clear hHb;have hxh:Ext wr (wr.alloc (.cells #[.int .i64 ps[k].hops[j].asn,.int .i64 ps[k].hops[j].ing,.int .i64 ps[k].hops[j].eg,.int .i64 ps[k].hops[j].exp,.int .i64 ps[k].hops[j].mac] 103)):=(Ab _).alloc _
     go_upto_region 9 with (fail)
     go_cut [47] (fun c wx=>c=.bool (mergeB (decide (0<k) && j == 0) out ps[k].hops[j])∧Ext (wr.alloc (.cells #[.int .i64 ps[k].hops[j].asn,.int .i64 ps[k].hops[j].ing,.int .i64 ps[k].hops[j].eg,.int .i64 ps[k].hops[j].exp,.int .i64 ps[k].hops[j].mac] 103)) wx)
     case first=>
      by_cases hk0:0<k
      ·
       by_cases hj0:j=0
       ·
        subst hj0
        by_cases hn0:0<out.length
        ·
         obtain⟨g,cap2,hv2,_,_⟩:=hownj.some_shape hn0
         cases hv2
         have hm:mergeB (decide (0<k) && 0 == 0) out ps[k].hops[0]=(out[out.length - 1].asn == ps[k].hops[0].asn):=by rw [mergeB_at hn0];simp [hk0]
         have HM:=Ac hm;clear hm;have q0:(0:Int)<k:=by omega
         have q2:(0:Int)≤(out.length:Int) - 1:=by omega
         have q3:(1:Int)≤(out.length:Int):=by omega
         have q6:(0:Int)<(out.length:Int):=by omega
         have q4:((out.length:Int) - 1).toNat=out.length - 1:=by omega
         have q5:(out.length:Int) - 1<(out.length:Int):=by omega
         have q7:IntKind.i64.wrap ((out.length:Int) - 1)=(out.length:Int) - 1:=IntWalk.i64_in _ (by omega);have hos:=Step.own_at (hownj.ext hxh) (out.length - 1) (by omega)
         go_quiet (fail)
         go_wp2
         go_meet
         exact⟨by rw [HM.out],(Ab _).drewN _⟩
        have hm:mergeB (decide (0<k) && 0 == 0) out ps[k].hops[0]=false:=by
         rw [List.eq_nil_of_length_eq_zero (by omega:out.length=0)];exact mergeB_nil
        have HM:=Ac hm;clear hm;have q0:(0:Int)<k:=by omega
        have q2:decide ((0:Int)≤(out.length:Int) - 1)=false:=decide_eq_false (by omega);have q3:decide ((1:Int)≤(out.length:Int))=false:=decide_eq_false (by omega);have q6:decide ((0:Int)<(out.length:Int))=false:=decide_eq_false (by omega)
        go_quiet (fail)
        go_wp2
        go_meet
        exact⟨by rw [HM.out],(Ab _).drewN _⟩
       have hm:mergeB (decide (0<k) && j == 0) out ps[k].hops[j]=false:=by simp [mergeB,hj0]
       have HM:=Ac hm;clear hm;have q1:((j:Int) == 0)=false:=by simp;omega
       go_quiet (fail)
       go_wp2
       go_meet
       exact⟨by rw [HM.out],(Ab _).drewN _⟩
      have hm:mergeB (decide (0<k) && j == 0) out ps[k].hops[j]=false:=by simp [mergeB,hk0]
      have HM:=Ac hm;clear hm;have q1:decide ((0:Int)<k)=false:=by simp;omega
      go_quiet (fail)
      go_wp2
      go_meet
      exact⟨by rw [HM.out],(Ab _).drewN _⟩
     case rest=>
      obtain⟨rfl,hxc⟩:=hcut;have hbc:=Aa (hxh.t hxc) HBj.out;have hPc:=blk4 hbc;have HBC:=Ac hbc;clear hbc;have hHc:=blk5 (Aa hxc HHB.out);have hxw:=(hxj.t hxh).t hxc;have hrc:=hr.ext hxw;have hoc:=hownj.ext (hxh.t hxc)
      cases hmb:mergeB (decide (0<k) && j == 0) out ps[k].hops[j]
      ·
       have hst:=stepOne_no (k:=ps[k].kind) hmb;have HS2:=Ac (HST.out.trans hst);clear hst;have HMB:=Ac hmb;clear hmb;have EIN:=Ac (partIn_at hlj);have EEG:=Ac (partEg_at hlj);have hln:out.length+1≤1048577:=by omega
       go_wp2_with fail
       refine Ax (.blk [0,1,2,3,4,6,7] (.one 5 (.one 8 (.blk [9] (.one 10 (.one 11 (.blk [12] .done))))))) [11] (by kernel_rfl) (by kernel_rfl) ?_
       refine blkStep (fun K HK=>?_);simp only [PK]
       go_wp2_with fail
       refine HK.out _ _ ?_;clear HK K
       refine oneStep (fun K HK=>?_);simp only [PK]
       go_wp2_with fail
       refine(i_PartIngress ps[k] _ _ _ (hrc.ext (Ab _).drew)).mono ?_;rintro e w1 ⟨rfl,h1⟩;rw [EIN.out]
       go_wp2_with fail
       refine HK.out _ _ (h1) ?_;clear HK K
       refine oneStep (fun K HK=>?_);simp only [PK]
       go_wp2_with fail
       refine(i_PartEgress ps[k] _ _ _ (hrc.ext ((Ab _).drew.trans h1))).mono ?_;rintro e w2 ⟨rfl,h2⟩;rw [EEG.out]
       go_wp2_with fail
       refine HK.out _ _ (h2) ?_;clear HK K
       refine blkStep (fun K HK=>?_);simp only [PK]
       go_wp2_with fail
       refine HK.out _ _ ?_;clear HK K
       refine oneStep (fun K HK=>?_);simp only [PK]
       go_wp2_with fail
       refine HK.out _ _ ((Ab _).alloc _) ?_;clear HK K;have hx2:=((Ab wc).drew.trans h1).trans h2;refine badStep (by kernel_rfl) (fun K HK=>?_);simp only [PK]
       refine app1 E Bu Step.one rfl _ _ rfl (stepOf ps[k].kind ps[k].hops[j]) rfl (Ay hoc (hx2.alloc _)) rfl (by exact Au (stepOf ps[k].kind ps[k].hops[j]).f (blk_new w2 _)) (by omega) (by unfold maxLen;omega) (by exact((hxw.t hx2).alloc _).size) ?_;intro v' w' ho' hg';have hx':=Ext.app ((hxw.t hx2).alloc _) hg' hoc (Ae _);have HB':=Ac (own_ne (Ay hoc (hx2.alloc _)) (Aa (hx2.alloc _) HBC.out) (by decide) hg')
       go_wp2_with fail
       refine HK.out _ _ ?_;clear HK K;refine blkStep (fun K HK=>?_);simp only [PK]
       go_wp2_with fail
       refine HK.out _ _ ?_;clear HK K
       refine Ap (by kernel_rfl) ?_
       rw [← HS2.out] at ho';clear hg'
       go_wp2_with fail
       go_roundg (gk - 1)
       case measure=>exact HGJ.out.2
       case rel=>exact⟨j+1,HGJ.out.1,by go_num,ho',HB',hx'⟩
      have hn0:=mergeB_len hmb;have hst:=stepOne_yes (k:=ps[k].kind) hmb hn0;have HS2:=Ac (HST.out.trans hst);clear hst;have HMB:=Ac hmb;clear hmb;have EEG:=Ac (partEg_at hlj);obtain⟨g,cap2,hv2,_,_⟩:=hownj.some_shape hn0
      cases hv2
      have q2:(0:Int)≤(out.length:Int) - 1:=by omega
      have q5:(out.length:Int) - 1<(out.length:Int):=by omega
      go_wp2_with fail
      refine(i_PartEgress ps[k] _ _ _ hrc).mono ?_;rintro e w2 ⟨rfl,h2⟩;rw [EEG.out];have ho2:=hoc.ext h2;have hos:=Step.own_at ho2 (out.length - 1) (by omega);have f2:=ho2.free ((out.length - 1) * 3+2);obtain⟨hop,hgp⟩:=OwnF.put1 Bu ho2 (out.length - 1) (by omega) 2 (by decide) (.int .i64 (hopEg ps[k].kind ps[k].hops[j])) ⟨out[out.length - 1].asn,out[out.length - 1].ing,hopEg ps[k].kind ps[k].hops[j]⟩ rfl;have hx':=(hxw.trans h2).grown hgp (fun q hq=>by cases hq;exact(ho2.block _ rfl).1);have HB':=Ac (own_ne ho2 (Aa h2 HBC.out) (by decide) hgp);rw [← HS2.out] at hop;have HOP:=Ac hop;clear hop hgp;have hle:out.length=(hopsTo (decide (0<k)) ps[k].kind (partsTo ps k) ps[k].hops (j+1)).length:=by rw [HS2.out];simp
      have HLE:=Ac hle;clear hle
      go_wp2_with fail
      go_roundg (gk - 1)
      case measure=>exact HGJ.out.2
      case rel=>exact⟨j+1,HGJ.out.1,by go_num,HOP.out,HB',hx'⟩
    obtain rfl:j=ps[k].hops.length:=by omega
    go_wp2
    go_roundg (go - 1)
    case measure=>exact HGK.out.2
    case rel=>exact⟨k+1,HGK.out.1,by go_num,by rw [partsTo_succ hlt];exact hownj,hxj⟩
  obtain rfl:k=ps.length:=by omega
  obtain⟨oo,cc,rfl,hso⟩:=(Bb (hf:=Bu) hown).shape;generalize hout:partsTo ps ps.length=out at *;have hfin:pathSteps ps=endsEg (endsIn out):=by unfold pathSteps;rw [hout]
  have HF:=Ac hfin;clear hfin hout
  by_cases hn0:0<out.length
  ·
   obtain⟨g,cap2,hv2,_,_⟩:=hown.some_shape hn0
   cases hv2
   have hos:=Step.own_at hown 0 hn0;simp only [Nat.zero_mul,Nat.zero_add] at hos;have f1:=hown.free 1;obtain⟨ho1,hg1⟩:=OwnF.put1 Bu hown 0 hn0 1 (by decide) (.int .i64 0) ⟨out[0].asn,0,out[0].eg⟩ rfl;have e1:out.set 0 ⟨out[0].asn,0,out[0].eg⟩=endsIn out:=by unfold endsIn;rw [dif_pos hn0]
   rw [e1] at ho1;have hl1:=endsIn_len out;have hos2:=Step.own_at ho1 (out.length - 1) (by omega);have f2:=ho1.free ((out.length - 1) * 3+2);obtain⟨ho2,hg2⟩:=OwnF.put1 Bu ho1 (out.length - 1) (by omega) 2 (by decide) (.int .i64 0) ⟨(endsIn out)[out.length - 1].asn,(endsIn out)[out.length - 1].ing,0⟩ rfl
   have e2:(endsIn out).set (out.length - 1) ⟨(endsIn out)[out.length - 1].asn,(endsIn out)[out.length - 1].ing,0⟩=endsEg (endsIn out):=by
    unfold endsEg;rw [dif_pos (by omega)];simp only [hl1]
   rw [e2] at ho2;have hx1:=(hx.grown hg1 (fun q hq=>by cases hq;exact(hown.block _ rfl).1)).grown hg2 (fun q hq=>by cases hq;exact(hown.block _ rfl).1);simp only [Nat.zero_mul,Nat.zero_add] at hos2 f2 ho2 hx1;have HO2:=Ac ho2;clear ho2 ho1 hg1 hg2 e1 e2;have q2:(0:Int)≤(out.length:Int) - 1:=by omega
   have q5:(out.length:Int) - 1<(out.length:Int):=by omega
   have q6:(0:Int)<(out.length:Int):=by omega
   go_wp2
   go_ret
   rw [HF.out];exact⟨_,rfl,HO2.out,hx1⟩
  have h0:out=[]:=List.eq_nil_of_length_eq_zero (by omega);subst h0
  go_wp2
  go_ret
  rw [HF.out];exact⟨_,rfl,hown,hx⟩
theorem s_PathSteps (x:Pth) (v:Value) (w:World) (r:RdS Part.rep w v x.parts) (hl:x.size≤1048576) :
  Calls Tryz.prog 46 #[.agg #[v]] w fun e w'=>∃ v',e=.returned v'∧OwnF Step.f 3 w.heap.size 79 w' v' (pathSteps x.parts)∧Ext w w':=by
 obtain⟨ps⟩:=x;unfold Pth.size at hl;dsimp only at r hl ⊢
 obtain⟨o,cap,rfl,hsm⟩:=r.shape;obtain⟨E⟩:=elemStp;have hB0:=Aa ((Ab _).alloc (.cells #[] 79)) (blk_new w (.cells #[.slice o ps.length cap] 30));have HB0:=Ac hB0;clear hB0;have hx0:Ext w ((w.alloc (.cells #[.slice o ps.length cap] 30)).alloc (.cells #[] 79)):=((Ab _).alloc _).alloc _;have ho0:=(Bj Step.f 3 (w.alloc (.cells #[.slice o ps.length cap] 30)).heap.size 79 (w.alloc (.cells #[.slice o ps.length cap] 30)) (Ae _)).mono (((Ab w).alloc (.cells #[.slice o ps.length cap] 30)).size);simp only [nblk_alloc] at ho0
 go_enter Tryz.func46,Tryz.ntmps46
 go_wp2
 go_loopg [3,4] ps.length (fun gk out i wr=>∃ k:Nat,gk+k=ps.length∧i=.int .i64 k∧OwnF Step.f 3 w.heap.size 79 wr out (partsTo ps k)∧Hid (wr.heap[w.heap.size]?=some (.cells #[.slice o ps.length cap] 30))∧Ext w wr)
 case atStart=>exact⟨0,rfl,rfl,ho0,HB0,hx0⟩
 case round=>
  clear ho0 hx0 HB0;obtain⟨k,hgk,rfl,hown,HB0,hx⟩:=hrel;have hcb:=blk1 HB0.out
  obtain⟨wo,rfl⟩:∃ wo:World,wo=wr:=⟨_,rfl⟩
  obtain⟨go,rfl⟩:∃ g:Nat,g=gk:=⟨_,rfl⟩
  have hpl:=partsTo_len ps k (by omega);have htl:=hopsN_take_le ps (k+1)
  by_cases hlt:k<ps.length
  ·
   obtain⟨b,off,oh,ch,rfl,hc,hr⟩:=Bx r k hlt;have hsn:=hopsN_snoc hlt;have hbd:hopsN (ps.take k)+ps[k].hops.length≤1048576:=by omega
   have hgk':go - 1+(k+1)=ps.length∧go - 1<go:=by omega
   have HGK:=Ac hgk';clear hgk' hgk hsn htl;have HC:=Ac hc;clear hc;have hsz:ps[k].hops.length≤9223372036854775807:=hr.small
   go_wp2
   clear hcb
   go_loopg [3,5] ps[k].hops.length (fun gj out i wi=>∃ j:Nat,gj+j=ps[k].hops.length∧i=.int .i64 j∧OwnF Step.f 3 w.heap.size 79 wi out (hopsTo (decide (0<k)) ps[k].kind (partsTo ps k) ps[k].hops j)∧Hid (wi.heap[w.heap.size]?=some (.cells #[.slice (some ⟨b,off,none⟩) ps.length cap] 30))∧Ext w wi)
   case atStart=>exact⟨0,rfl,rfl,hown,HB0,hx⟩
   case round=>
    obtain⟨j,hgj,rfl,hownj,HBj,hxj⟩:=hrel;have hol:=hopsTo_len (decide (0<k)) ps[k].kind (partsTo ps k) ps[k].hops j;obtain⟨oo,cc,rfl,hso⟩:=(Bb (hf:=Bu) hownj).shape
    have hcb:=blk1 HBj.out;have hcp:=Ag hxj HC.out
    by_cases hlj:j<ps[k].hops.length
    ·
     obtain⟨b2,off2,rfl,hc2⟩:=Ca (hr.ext hxj) j hlj;have hrw:=hr.ext hxj;have hst:=hopsTo_succ (m:=decide (0<k)) (k:=ps[k].kind) (out:=partsTo ps k) hlj;have HST:=Ac hst;clear hst;have hgj':gk - 1+(j+1)=ps[k].hops.length∧gk - 1<gk:=by omega
     have HGJ:=Ac hgj';clear hgj' hgj;generalize hout:hopsTo (decide (0<k)) ps[k].kind (partsTo ps k) ps[k].hops j=out at *;clear hout
     have EIN:=Ac (partIn_at hlj);have EEG:=Ac (partEg_at hlj)
     go_upto_region 8 with (fail)
     go_cut [6] (fun v6 wx=>∃ B6,v6=.pointer (some ⟨B6,0,none⟩)∧wx.heap[B6]?=some (.cells #[.int .i64 ps[k].hops[j].asn,.int .i64 (hopIn ps[k].kind ps[k].hops[j]),.int .i64 (hopEg ps[k].kind ps[k].hops[j])] 79)∧wr.heap.size≤B6∧Ext wr wx)
     case first=>
      refine Ax (.blk [0,1,2,3,4,5,6,7,8,9,10,11,12,13,14,15,17,18,19,20,21,22] (.two 16 25 (.two 23 25 (.blk [24] (.one 25 (.one 26 .done))) (.one 23 (.blk [24] (.one 26 .done)))) (.one 16 (.one 23 (.blk [24] (.one 26 .done)))))) [26] (by kernel_rfl) (by kernel_rfl) ?_;refine blkStep (fun K HK=>?_);simp only [PK]
      go_wp2_with fail
      refine HK.out _ _ ?_;clear HK K
      clear hc2 hcp hcb;refine twoStep ?_ ?_
      ·
       refine oneStep (fun K HK=>?_);simp only [PK]
       go_wp2_with fail
       refine(s_PartIngress ps[k] _ _ _ (hrw.ext (Ab _).drew)).mono ?_;rintro e w1 ⟨rfl,h1⟩;rw [EIN.out]
       go_wp2_with fail
       refine HK.out _ _ (h1) ?_;clear HK K;refine twoStep ?_ ?_
       ·
        refine oneStep (fun K HK=>?_);simp only [PK]
        go_wp2_with fail
        refine(s_PartEgress ps[k] _ _ _ (hrw.ext ((Ab _).drew.trans h1))).mono ?_;rintro e w2 ⟨rfl,h2⟩;rw [EEG.out]
        go_wp2_with fail
        refine HK.out _ _ (h2) ?_;clear HK K;refine blkStep (fun K HK=>?_);simp only [PK]
        go_wp2_with fail
        refine HK.out _ _ ?_;clear HK K;refine oneStep (fun K HK=>?_);simp only [PK]
        go_wp2_with fail
        refine HK.out _ _ ((Ab _).alloc _) ?_;clear HK K;refine badStep (by kernel_rfl) (fun K HK=>?_);simp only [PK]
        go_wp2_with fail
        refine HK.out _ _ ?_;clear HK K;refine Ap (by kernel_rfl) ?_
        go_wp2_with fail
        go_meet
        exact⟨_,rfl,blk_new w2 _,(((Ab wr).drew.trans h1).trans h2).size,(((Ab wr).drew.trans h1).trans h2).alloc _⟩
       have hb1:=blk_new w1 (.cells #[.int .i64 0,.int .i64 0,.int .i64 0] 79);have HB1:=Ac hb1;clear hb1;refine oneStep (fun K HK=>?_);simp only [PK]
       go_wp2_with fail
       refine HK.out _ _ ((Ab _).alloc _) ?_;clear HK K;refine oneStep (fun K HK=>?_);simp only [PK]
       go_wp2_with fail
       refine(s_PartEgress ps[k] _ _ _ (hrw.ext (((Ab _).drew.trans h1).alloc _))).mono ?_;rintro e w2 ⟨rfl,h2⟩;rw [EEG.out]
       go_wp2_with fail
       refine HK.out _ _ (h2) ?_;clear HK K;refine blkStep (fun K HK=>?_);simp only [PK]
       go_wp2_with fail
       refine HK.out _ _ ?_;clear HK K;have hb2:=h2.block HB1.out;have c2:=blk3 hb2;have f20:=fr_of hb2 0;have f21:=fr_of hb2 1;have f22:=fr_of hb2 2;have HB2:=Ac hb2;clear hb2;refine badStep (by kernel_rfl) (fun K HK=>?_);simp only [PK]
       go_wp2_with fail
       refine HK.out _ _ ?_;clear HK K;refine Ap (by kernel_rfl) ?_
       go_wp2_with fail
       go_meet
       exact⟨_,rfl,blk_set3 HB2.out _ _ _,((Ab wr).drew.trans h1).size,ext_set3 ((((Ab wr).drew.trans h1).alloc _).trans h2) ((Ab wr).drew.trans h1).size _ _ _⟩
      have hb1:((wr.alloc (.cells #[.int .i64 0,.int .i64 0,.int .i64 0] 79)).drew).heap[wr.heap.size]?=some (.cells #[.int .i64 0,.int .i64 0,.int .i64 0] 79):=blk_new wr _;have HB1:=Ac hb1;clear hb1;refine oneStep (fun K HK=>?_);simp only [PK]
      go_wp2_with fail
      refine HK.out _ _ ((Ab _).alloc _) ?_;clear HK K;refine oneStep (fun K HK=>?_);simp only [PK]
      go_wp2_with fail
      refine(s_PartIngress ps[k] _ _ _ (hrw.ext ((Ab _).drew.alloc _))).mono ?_;rintro e w1 ⟨rfl,h1⟩;rw [EIN.out]
      go_wp2_with fail
      refine HK.out _ _ (h1) ?_;clear HK K;refine oneStep (fun K HK=>?_);simp only [PK]
      go_wp2_with fail
      refine(s_PartEgress ps[k] _ _ _ (hrw.ext (((Ab _).drew.alloc _).trans h1))).mono ?_;rintro e w2 ⟨rfl,h2⟩;rw [EEG.out]
      go_wp2_with fail
      refine HK.out _ _ (h2) ?_;clear HK K;refine blkStep (fun K HK=>?_);simp only [PK]
      go_wp2_with fail
      refine HK.out _ _ ?_;clear HK K;have hb2:=h2.block (h1.block HB1.out);have c2:=blk3 hb2;have f20:=fr_of hb2 0;have f21:=fr_of hb2 1;have f22:=fr_of hb2 2;have HB2:=Ac hb2;clear hb2;refine badStep (by kernel_rfl) (fun K HK=>?_);simp only [PK]
      go_wp2_with fail
      refine HK.out _ _ ?_;clear HK K;refine Ap (by kernel_rfl) ?_
      go_wp2_with fail
      go_meet
      exact⟨_,rfl,blk_set3 HB2.out _ _ _,Ae _,ext_set3 ((((Ab wr).drew.alloc _).trans h1).trans h2) (Ae _) _ _ _⟩
     case rest=>
      obtain⟨B6,rfl,hb6,hle6,hx6⟩:=hcut;have hc6:=blk3 hb6;have HB6:=Ac hb6;clear hb6;have hlt6:B6<wc.heap.size:=blk_lt HB6.out;have ho6:=hownj.ext hx6;have HBc:=Ac (hx6.block HBj.out);have hxw:=hxj.trans hx6;clear hc2 hcp hcb
      obtain⟨wd,rfl⟩:∃ wd:World,wd=wc:=⟨_,rfl⟩
      go_upto_region 10 with (fail)
      go_cut [76] (fun c wx=>c=.bool (mergeB (decide (0<k) && j == 0) out ps[k].hops[j])∧Ext wd wx)
      case first=>
       by_cases hk0:0<k
       ·
        by_cases hj0:j=0
        ·
         subst hj0
         by_cases hn0:0<out.length
         ·
          obtain⟨g,cap2,hv2,_,_⟩:=hownj.some_shape hn0
          cases hv2
          have hm:mergeB (decide (0<k) && 0 == 0) out ps[k].hops[0]=(out[out.length - 1].asn == ps[k].hops[0].asn):=by rw [mergeB_at hn0];simp [hk0]
          have HM:=Ac hm;clear hm;have q0:(0:Int)<k:=by omega
          have q2:(0:Int)≤(out.length:Int) - 1:=by omega
          have q3:(1:Int)≤(out.length:Int):=by omega
          have q6:(0:Int)<(out.length:Int):=by omega
          have q4:((out.length:Int) - 1).toNat=out.length - 1:=by omega
          have q5:(out.length:Int) - 1<(out.length:Int):=by omega
          have q7:IntKind.i64.wrap ((out.length:Int) - 1)=(out.length:Int) - 1:=IntWalk.i64_in _ (by omega);have hos:=Step.own_at (ho6) (out.length - 1) (by omega)
          go_quiet (fail)
          go_wp2
          go_meet
          exact⟨by rw [HM.out],(Ab _).drewN _⟩
         have hm:mergeB (decide (0<k) && 0 == 0) out ps[k].hops[0]=false:=by
          rw [List.eq_nil_of_length_eq_zero (by omega:out.length=0)];exact mergeB_nil
         have HM:=Ac hm;clear hm;have q0:(0:Int)<k:=by omega
         have q2:decide ((0:Int)≤(out.length:Int) - 1)=false:=decide_eq_false (by omega);have q3:decide ((1:Int)≤(out.length:Int))=false:=decide_eq_false (by omega);have q6:decide ((0:Int)<(out.length:Int))=false:=decide_eq_false (by omega)
         go_quiet (fail)
         go_wp2
         go_meet
         exact⟨by rw [HM.out],(Ab _).drewN _⟩
        have hm:mergeB (decide (0<k) && j == 0) out ps[k].hops[j]=false:=by simp [mergeB,hj0]
        have HM:=Ac hm;clear hm;have q1:((j:Int) == 0)=false:=by simp;omega
        go_quiet (fail)
        go_wp2
        go_meet
        exact⟨by rw [HM.out],(Ab _).drewN _⟩
       have hm:mergeB (decide (0<k) && j == 0) out ps[k].hops[j]=false:=by simp [mergeB,hk0]
       have HM:=Ac hm;clear hm;have q1:decide ((0:Int)<k)=false:=by simp;omega
       go_quiet (fail)
       go_wp2
       go_meet
       exact⟨by rw [HM.out],(Ab _).drewN _⟩
      case rest=>
       obtain⟨rfl,hxc⟩:=hcut;have hb7:=hxc.block HB6.out;have hc7:=blk3 hb7;have f71:=fr_of hb7 1;have HB7:=Ac hb7;clear hb7 hc6;have hlt7:B6<wc.heap.size:=blk_lt HB7.out;have ho7:=ho6.ext hxc;have HBe:=Ac (hxc.block HBc.out);have hxe:=hxw.trans hxc;have hne6:∀ q,(Value.slice oo out.length cc).ownBlock=some q→q<wr.heap.size:=fun q hq=>(hownj.block q hq).2
       have hln:out.length+1≤1048577:=by omega
       cases hmb:mergeB (decide (0<k) && j == 0) out ps[k].hops[j]
       ·
        have hst:=stepOne_no (k:=ps[k].kind) hmb;have HS2:=Ac (HST.out.trans hst);clear hst;have HMB:=Ac hmb;clear hmb;have HN6:=Ac hne6;clear hne6
        go_wp2_with (at_builtin;refine app1 E Bu Step.one rfl _ _ rfl (stepOf ps[k].kind ps[k].hops[j]) rfl (Ay ho7 ((Ab _).alloc _)) rfl (by exact Au (stepOf ps[k].kind ps[k].hops[j]).f (blk_new wc _)) (by omega) (by unfold maxLen;omega) (by exact(hxe.alloc _).size) ?_)
        intro v' w' ho' hg';have hx':=Ext.app (hxe.alloc _) hg' ho7 (Ae _);have HB':=Ac (own_ne (Ay ho7 ((Ab _).alloc _)) (Aa ((Ab _).alloc _) HBe.out) (by decide) hg');rw [← HS2.out] at ho';clear hg'
        go_wp2_with fail
        go_roundg (gk - 1)
        case measure=>exact HGJ.out.2
        case rel=>exact⟨j+1,HGJ.out.1,by go_num,ho',HB',hx'⟩
       have hn0:=mergeB_len hmb;have hst:=stepOne_yes2 (k:=ps[k].kind) hmb hn0;have HS2:=Ac (HST.out.trans hst);clear hst;have HMB:=Ac hmb;clear hmb;obtain⟨g,cap2,hv2,_,hgs⟩:=hownj.some_shape hn0
       cases hv2
       have HN6:=Ac hne6;clear hne6;have hos:=Step.own_at ho7 (out.length - 1) (by omega);have q2:(0:Int)≤(out.length:Int) - 1:=by omega
       have q5:(out.length:Int) - 1<(out.length:Int):=by omega
       have hch:Chg (fun q=>q=B6) wc (wc.setCell ⟨B6,1,none⟩ (.int .i64 out[out.length - 1].ing)):=⟨rfl,rfl,rfl,by simp [World.setCell],fun q hq hn=>Below.heap_setCell _ _ _ _ hn⟩
       have ho8:=ho7.chg hch (fun q hq (e:q=B6)=>by have hgq:g=q:=(by simpa [Value.ownBlock] using hq);omega);have ho9:=OwnF.trim Bu ho8 (out.length - 1) (by omega);have hb8:=blk_set HB7.out 1 (.int .i64 out[out.length - 1].ing);simp only [List.setIfInBounds_toArray,List.set_cons_succ,List.set_cons_zero] at hb8;have hc8:=blk3 hb8;have HB8:=Ac (blk_set_ne HBe.out (show B6≠w.heap.size by have:=blk_lt HBj.out;omega) 1 (.int .i64 out[out.length - 1].ing));have hx8:=hxe.setCell (p:=⟨B6,1,none⟩) (by have:=hxj.size;simp only;omega) (.int .i64 out[out.length - 1].ing);have hlen9:(out.take (out.length - 1)).length≤1048576:=by simp;omega
       clear ho8 hch hb8;have HL9:=Ac hlen9;clear hlen9
       go_upto_region 12 with (fail)
       generalize wc.setCell ⟨B6,1,none⟩ (.int .i64 out[out.length - 1].ing)=wz at *;have hcc:=ho7.capLe;have q8:(out.length:Int) - 1≤cc:=by omega
       go_wp2_with (at_builtin;refine app1 E Bu Step.one rfl _ _ rfl (⟨ps[k].hops[j].asn,out[out.length - 1].ing,hopEg ps[k].kind ps[k].hops[j]⟩:Step) rfl (Ay ho9 ((Ab _).alloc _)) rfl (by exact Au (Step.f ⟨ps[k].hops[j].asn,out[out.length - 1].ing,hopEg ps[k].kind ps[k].hops[j]⟩) (blk_new wz _)) (by have:=HL9.out;omega) (by have:=HL9.out;unfold maxLen;omega) (by exact(hx8.alloc _).size) ?_)
       intro v' w' ho' hg';have hx':=Ext.app (hx8.alloc _) hg' ho9 (Ae _);have HB':=Ac (own_ne (Ay ho9 ((Ab _).alloc _)) (Aa ((Ab _).alloc _) HB8.out) (by decide) hg');rw [← HS2.out] at ho';clear hg'
       go_wp2_with fail
       go_roundg (gk - 1)
       case measure=>exact HGJ.out.2
       case rel=>exact⟨j+1,HGJ.out.1,by go_num,ho',HB',hx'⟩
    obtain rfl:j=ps[k].hops.length:=by omega
    go_wp2
    go_roundg (go - 1)
    case measure=>exact HGK.out.2
    case rel=>exact⟨k+1,HGK.out.1,by go_num,by rw [partsTo_succ hlt];exact hownj,HBj,hxj⟩
  obtain rfl:k=ps.length:=by omega
  obtain⟨oo,cc,rfl,hso⟩:=(Bb (hf:=Bu) hown).shape;generalize hout:partsTo ps ps.length=out at *;have hfin:pathSteps ps=endsEg (endsIn out):=by unfold pathSteps;rw [hout]
  have HF:=Ac hfin;clear hfin hout
  by_cases hn0:0<out.length
  ·
   obtain⟨g,cap2,hv2,_,hgs⟩:=hown.some_shape hn0
   cases hv2
   have q2:(0:Int)≤(out.length:Int) - 1:=by omega
   have q5:(out.length:Int) - 1<(out.length:Int):=by omega
   have q6:(0:Int)<(out.length:Int):=by omega
   have hos:=Step.own_at hown 0 hn0;simp only [Nat.zero_mul,Nat.zero_add] at hos;have f0:=hown.free 0;have f1:=hown.free 1;have f2:=hown.free 2;obtain⟨ho1,hg1⟩:=Step.own_set hown 0 hn0 ⟨out[0].asn,0,out[0].eg⟩;have e1:out.set 0 ⟨out[0].asn,0,out[0].eg⟩=endsIn out:=by unfold endsIn;rw [dif_pos hn0]
   rw [e1] at ho1;simp only [Nat.zero_mul,Nat.zero_add] at ho1 hg1;have hx1:=(hx.grown hg1 (fun q hq=>by cases hq;exact(hown.block _ rfl).1)).alloc (.cells #[.int .i64 out[0].asn,.int .i64 0,.int .i64 out[0].eg] 79);have ho1':=ho1.ext ((Ab _).alloc (.cells #[.int .i64 out[0].asn,.int .i64 0,.int .i64 out[0].eg] 79));clear ho1 hg1
   go_upto_region 18 with (fail)
   clear f0 f1 f2 hos;generalize (((wo.setCell ⟨g,0,none⟩ (.int .i64 out[0].asn)).setCell ⟨g,1,none⟩ (.int .i64 0)).setCell ⟨g,2,none⟩ (.int .i64 out[0].eg)).alloc (.cells #[.int .i64 out[0].asn,.int .i64 0,.int .i64 out[0].eg] 79)=wz at *;have hl1:=endsIn_len out;have hgz:g<wz.heap.size:=(ho1'.block _ rfl).2;have hos2:=Step.own_at ho1' (out.length - 1) (by omega);have f3:=ho1'.free ((out.length - 1) * 3);have f4:=ho1'.free ((out.length - 1) * 3+1);have f5:=ho1'.free ((out.length - 1) * 3+2);obtain⟨ho2,hg2⟩:=Step.own_set ho1' (out.length - 1) (by omega) ⟨(endsIn out)[out.length - 1].asn,(endsIn out)[out.length - 1].ing,0⟩
   have e2:(endsIn out).set (out.length - 1) ⟨(endsIn out)[out.length - 1].asn,(endsIn out)[out.length - 1].ing,0⟩=endsEg (endsIn out):=by
    unfold endsEg;rw [dif_pos (by omega)];simp only [hl1]
   rw [e2] at ho2;have hx2:=(hx1.grown hg2 (fun q hq=>by cases hq;exact(ho1'.block _ rfl).1)).alloc (.cells #[.int .i64 (endsIn out)[out.length - 1].asn,.int .i64 (endsIn out)[out.length - 1].ing,.int .i64 0] 79);have HO2:=Ac (ho2.ext ((Ab _).alloc (.cells #[.int .i64 (endsIn out)[out.length - 1].asn,.int .i64 (endsIn out)[out.length - 1].ing,.int .i64 0] 79)));clear ho2 hg2 e1 e2
   go_wp2
   go_ret
   rw [HF.out];exact⟨_,rfl,HO2.out,hx2⟩
  have h0:out=[]:=List.eq_nil_of_length_eq_zero (by omega);subst h0
  go_wp2
  go_ret
  rw [HF.out];exact⟨_,rfl,hown,hx⟩
end
end Go.Proofs.YteodlcpeoaggbaaGreat
