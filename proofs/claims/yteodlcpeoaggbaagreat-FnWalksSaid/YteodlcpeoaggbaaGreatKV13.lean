/- What these laws need: FnOld, FnWalks: Contracts of the tests of whole paths: order of parts, interfaces, codes, expiry, program and reference. Contracts of simple, verified and usable paths, program and reference. A packet set out on a path that every AS permits: it comes to the end, or a hop does not verify or is not in time. -/
import Derived.Test.YteodlcpeoaggbaaGreatKV11
import Derived.Test.YteodlcpeoaggbaaGreatKV12
namespace Go.Proofs.YteodlcpeoaggbaaGreat
section
open Go.ChangeShapes Go.WideShapes Go.ChangeAt Go.RowKit Go.Deep
set_option maxRecDepth 100000
set_option maxHeartbeats 8000000
theorem betaFor_yes {x:Part} {k:Nat} (h:isRev x.kind=true):betaFor x k=betaAfter x ((k:Int)+1):=by unfold betaFor;rw [if_pos h];push_cast;rfl
theorem betaFor_no {x:Part} {k:Nat} (h:isRev x.kind=false):betaFor x k=betaAfter x (k:Int):=by unfold betaFor;rw [if_neg (by rw [h];decide)]
theorem followAt_of {l:List Part} {j k:Nat} (hj:k=j+1) (hjl:j<l.length) (h:k<l.length) (h1:l[j].hops.length - 1<l[j].hops.length) (h2:0<l[k].hops.length) :
  followAt l j=(decide (rank l[j].kind<rank l[k].kind) && (l[j].hops[l[j].hops.length - 1].asn == l[k].hops[0].asn)):=by
 subst hj;unfold followAt;rw [Cf hjl,Cf h,Bz h1,Bz h2]
theorem wf_no {t:Topo} {p:Pth} {k:Nat} (hk:k<p.parts.length) (h:partOk t p.parts k=false):wfPath t p=false:=by unfold wfPath;rw [allTo_no hk h];simp
theorem partOk_valid {t:Topo} {l:List Part} {k:Nat} (h:allTo (partOk t l) k=true) {j:Nat} (hj:j<k) (hl:j<l.length):validPart t l[j]=true:=by
 have:=allTo_true.1 h j hj;unfold partOk at this;rw [Cf hl] at this;simp only [Bool.and_eq_true] at this;exact this.1
theorem simple_valid {t:Topo} {p:Pth} (h:simple t p=true) {j:Nat} (hj:j<p.parts.length):validPart t p.parts[j]=true:=by
 unfold simple wfPath at h;simp only [Bool.and_eq_true] at h;exact partOk_valid h.1.2 hj hj
theorem hop0_ext {w w':World} {b off:Nat} {v0 v1 v2 v3 v4:Value} (x:Ext w w') (h:w.cell? ⟨b,off,none⟩=some v0∧w.cell? ⟨b,off+1,none⟩=some v1∧w.cell? ⟨b,off+2,none⟩=some v2∧w.cell? ⟨b,off+3,none⟩=some v3∧w.cell? ⟨b,off+4,none⟩=some v4) :
  w'.cell? ⟨b,off,none⟩=some v0∧w'.cell? ⟨b,off+1,none⟩=some v1∧w'.cell? ⟨b,off+2,none⟩=some v2∧w'.cell? ⟨b,off+3,none⟩=some v3∧w'.cell? ⟨b,off+4,none⟩=some v4:=
 ⟨x.cell h.1,x.cell h.2.1,x.cell h.2.2.1,x.cell h.2.2.2.1,x.cell h.2.2.2.2⟩
theorem i_placeOf (k:Int) (w:World) :
  Calls Tryz.prog 159 #[.int .i64 k] w fun e w'=>e=.returned (.int .i64 (rank k))∧w=w':=by
 go_enter Tryz.func159,Tryz.ntmps159
 cases b1:(k == 1) <;> cases b2:(k == 2) <;> cases b3:(k == 3)
 all_goals
  go_wp2
  go_ret
  exact⟨ret_int (by unfold rank;rw [b1,b2,b3];rfl),rfl⟩
theorem s_l22Rank (k:Int) (w:World) :
  Calls Tryz.prog 184 #[.int .i64 k] w fun e w'=>e=.returned (.int .i64 (rank k))∧w=w':=by
 go_enter Tryz.func184,Tryz.ntmps184
 cases b1:(k == 1) <;> cases b2:(k == 2) <;> cases b3:(k == 3)
 all_goals
  go_wp2
  go_ret
  exact⟨ret_int (by unfold rank;rw [b1,b2,b3];rfl),rfl⟩
theorem i_WellFormedPath (t:Topo) (v1 v2:Value) (p:Pth) (v:Value) (w:World) (ha:RdS ASd.rep w v1 t.ases) (hk:RdS Lnk.rep w v2 t.links) (r:RdS Part.rep w v p.parts) :
  Calls Tryz.prog 120 #[.agg #[v1,v2],.agg #[v]] w fun e w'=>e=.returned (.bool (wfPath t p))∧Ext w w':=by
 obtain⟨o,cap,rfl,hsm⟩:=r.shape;obtain⟨hx0,HB0⟩:=ea2 w (.cells #[v1,v2] 27) (.cells #[.slice o p.parts.length cap] 30);replace HB0:=Ac HB0
 go_enter Tryz.func120,Tryz.ntmps120
 have cf1:=blk2 HB0.out.1;have cf2:=blk1 HB0.out.2
 go_wp2_with fail
 refine(i_InRange _ _ _ _).mono ?_;rintro e _ ⟨rfl,rfl⟩
 cases bb:inR (p.parts.length:Int) 1 3
 ·
  have HE:=Ac (show wfPath t p=false by unfold wfPath;rw [bb];rfl)
  go_wp2_with fail
  go_ret
  exact⟨Ah HE.out.symm,hx0⟩
 have HL:=Ac (show wfPath t p=allTo (partOk t p.parts) p.parts.length by unfold wfPath;rw [bb];rfl);clear bb
 obtain⟨W0,hW0⟩:∃ W0:World,W0=(w.alloc (.cells #[v1,v2] 27)).alloc (.cells #[.slice o p.parts.length cap] 30):=⟨_,rfl⟩
 rw [← hW0] at hx0 HB0
 go_wp2_with fail
 rw [← hW0];clear hW0
 go_loopg [16] p.parts.length (fun gk i wr=>∃ k:Nat,gk+k=p.parts.length∧i=.int .i64 k∧Hid (allTo (partOk t p.parts) k=true)∧Ext W0 wr)
 case atStart=>exact⟨0,rfl,rfl,Ac rfl,Ab _⟩
 case round=>
  obtain⟨k,hgk,rfl,HK,hx⟩:=hrel
  by_cases hlt:k<p.parts.length
  ·
   have HG:=Ac (show gk - 1+(k+1)=p.parts.length∧gk - 1<gk by omega);clear hgk;have HAT:=Ac (Cf hlt);obtain⟨b,off,oh,ch,rfl,hc,hr⟩:=Bx (r.ext (hx0.t hx)) k hlt;have h4:(k:Int)<(p.parts.length:Int):=by omega
   try clear cf1
   try clear cf2
   have cf3:=blk2 (Aa hx HB0.out.1);have cf4:=blk1 (Aa hx HB0.out.2);obtain⟨hx1,HB1⟩:=ea1 wr (.cells #[.int .i64 p.parts[k].kind,.int .i64 p.parts[k].ts,.int .i64 p.parts[k].beta,.slice oh p.parts[k].hops.length ch] 99);replace HB1:=Ac HB1;have cf5:=blk2 (Aa (hx.t hx1) HB0.out.1);have cf6:=blk1 (Aa (hx.t hx1) HB0.out.2);have cf7:=blk4 HB1.out;have cf8:=Ag hx1 hc
   go_wp2_with fail
   refine(i_ValidPart t _ _ p.parts[k] _ _ (ha.ext ((hx0.t hx).t hx1)) (hk.ext ((hx0.t hx).t hx1)) (hr.ext hx1)).mono ?_;rintro e w1 ⟨rfl,hz1⟩
   cases b1:validPart t p.parts[k]
   ·
    have HE:=Ac (wf_no (t:=t) hlt (show partOk t p.parts k=false by unfold partOk;rw [HAT.out,b1];rfl))
    try clear cf5
    try clear cf6
    try clear cf7
    try clear cf8
    have cf9:=blk2 (Aa ((hx.t hx1).t hz1) HB0.out.1);have cf10:=blk1 (Aa ((hx.t hx1).t hz1) HB0.out.2);have cf11:=blk4 (Aa hz1 HB1.out);have cf12:=Ag (hx1.t hz1) hc
    go_wp2_with fail
    go_ret
    exact⟨Ah HE.out.symm,(((hx0.t hx).t hx1).t hz1)⟩
   have hl1:=validPart_len b1
   rcases Nat.eq_zero_or_pos k with rfl | hk0
   ·
    have HK2:Hid (allTo (partOk t p.parts) (0+1)=true):=Ac (Ch rfl (show partOk t p.parts 0=true by unfold partOk;rw [HAT.out,b1];rfl))
    try clear cf5
    try clear cf6
    try clear cf7
    try clear cf8
    have cf13:=blk2 (Aa ((hx.t hx1).t hz1) HB0.out.1);have cf14:=blk1 (Aa ((hx.t hx1).t hz1) HB0.out.2);have cf15:=blk4 (Aa hz1 HB1.out);have cf16:=Ag (hx1.t hz1) hc
    go_wp2_with fail
    go_roundg (gk - 1)
    case measure=>exact HG.out.2
    case rel=>exact⟨0+1,HG.out.1,by go_num,HK2,((hx.t hx1).t hz1)⟩
   obtain⟨j,hj⟩:∃ j,k=j+1:=⟨k - 1,by omega⟩
   have hjl:j<p.parts.length:=by omega
   have hvj:=partOk_valid HK.out (show j<k by omega) hjl;have hl2:=validPart_len hvj;have HJJ:=Ac hj;have hk1:(0:Int)<(k:Int):=by omega
   have hw2:(k:Int) - 1=(j:Int):=by omega
   obtain⟨bj,offj,ohj,chj,ej,hd,hrj⟩:=Bx (r.ext (((hx0.t hx).t hx1).t hz1)) j hjl
   cases ej
   have h7:(j:Int)<(p.parts.length:Int):=by omega
   have h8:(0:Int)≤(j:Int):=by omega
   have hl3:p.parts[j].hops.length - 1<p.parts[j].hops.length:=by omega
   have hl4:0<p.parts[k].hops.length:=by omega
   have HF:=Ac (followAt_of hj hjl hlt hl3 hl4);have hwl:IntKind.i64.wrap ((p.parts[j].hops.length:Int) - 1)=((p.parts[j].hops.length - 1:Nat):Int):=by rw [IntWalk.i64_in _ (by omega)];omega
   have hl5:((p.parts[j].hops.length - 1:Nat):Int)<(p.parts[j].hops.length:Int):=by omega
   have hl6:(0:Int)≤((p.parts[j].hops.length - 1:Nat):Int):=by omega
   have hl7:(0:Int)<(p.parts[k].hops.length:Int):=by omega
   clear hj hvj;obtain⟨b3,off3,e3,ht3⟩:=Ca hrj (p.parts[j].hops.length - 1) hl3;obtain⟨b4,off4,e4,ht4⟩:=Ca (hr.ext (hx1.t hz1)) 0 hl4
   cases e3
   cases e4
   simp only [Nat.zero_mul,Nat.add_zero] at ht4
   try clear cf5
   try clear cf6
   try clear cf7
   try clear cf8
   have cf17:=blk2 (Aa ((hx.t hx1).t hz1) HB0.out.1);have cf18:=blk1 (Aa ((hx.t hx1).t hz1) HB0.out.2);have cf19:=blk4 (Aa hz1 HB1.out);have cf20:=Ag (hx1.t hz1) hc;generalize hlst:p.parts[j].hops.length - 1=lst at *;have HLST:=Ac hlst;clear hlst;obtain⟨hx2,HB2⟩:=ea1 w1 (.cells #[.int .i64 p.parts[j].kind,.int .i64 p.parts[j].ts,.int .i64 p.parts[j].beta,.slice (some ⟨b3,off3,none⟩) p.parts[j].hops.length chj] 99);replace HB2:=Ac HB2
   go_wp2_with fail
   clear hw2
   by_cases hge:rank p.parts[k].kind≤rank p.parts[j].kind
   ·
    have hge2:decide (rank p.parts[k].kind≤rank p.parts[j].kind)=true:=decide_eq_true hge;have cf21:=blk2 (Aa (((hx.t hx1).t hz1).t hx2) HB0.out.1);have cf22:=blk1 (Aa (((hx.t hx1).t hz1).t hx2) HB0.out.2);have cf23:=blk4 (Aa (hz1.t hx2) HB1.out);have cf24:=blk4 HB2.out;have cf25:=Ag ((hx1.t hz1).t hx2) hc;have cf26:=Ag hx2 hd;have cf27:=Av hx2 ht3;have cf28:=hop0_ext hx2 ht4
    go_wp2_with fail
    refine Al (by kernel_rfl) (by kernel_rfl) ?_;have q0:=Br cf21;have q2:=Bd (cf22);have q3:=Bm cf23;have q7:=Bm cf24;have q11:=Bm cf25;have q15:=Bm cf26;have q19:=Bv cf27;have q24:=Bv cf28
    repeat (first | go_big_quiet_step (((first | (go_at_call 159;exact Am (i_placeOf _ _))))) | quiet_step (((first | (go_at_call 159;exact Am (i_placeOf _ _))))))
    refine wpQuiet_nil ?_;intro w2 hw2;have hz2:=Bc hw2;clear hw2 q0 q2 q3 q7 q11 q15 q19 q24;have HE:=Ac (wf_no (t:=t) hlt (show partOk t p.parts k=false by unfold partOk;rw [show k - 1=j by rw [HJJ.out];rfl,HF.out,decide_eq_false (by omega)];simp;omega))
    try clear cf21
    try clear cf22
    try clear cf23
    try clear cf24
    try clear cf25
    try clear cf26
    try clear cf27
    try clear cf28
    have cf29:=blk2 (Aa ((((hx.t hx1).t hz1).t hx2).t hz2) HB0.out.1);have cf30:=blk1 (Aa ((((hx.t hx1).t hz1).t hx2).t hz2) HB0.out.2);have cf31:=blk4 (Aa ((hz1.t hx2).t hz2) HB1.out);have cf32:=blk4 (Aa hz2 HB2.out);have cf33:=Ag (((hx1.t hz1).t hx2).t hz2) hc;have cf34:=Ag (hx2.t hz2) hd;have cf35:=Av (hx2.t hz2) ht3;have cf36:=hop0_ext (hx2.t hz2) ht4
    go_wp2_with fail
    go_ret
    exact⟨Ah HE.out.symm,(((((hx0.t hx).t hx1).t hz1).t hx2).t hz2)⟩
   have hge2:decide (rank p.parts[k].kind≤rank p.parts[j].kind)=false:=decide_eq_false hge
   cases b5:(p.parts[j].hops[lst].asn == p.parts[k].hops[0].asn)
   ·
    have b5':(p.parts[j].hops[lst].asn != p.parts[k].hops[0].asn)=true:=by simp only [bne,b5];rfl
    have cf37:=blk2 (Aa (((hx.t hx1).t hz1).t hx2) HB0.out.1);have cf38:=blk1 (Aa (((hx.t hx1).t hz1).t hx2) HB0.out.2);have cf39:=blk4 (Aa (hz1.t hx2) HB1.out);have cf40:=blk4 HB2.out;have cf41:=Ag ((hx1.t hz1).t hx2) hc;have cf42:=Ag hx2 hd;have cf43:=Av hx2 ht3;have cf44:=hop0_ext hx2 ht4
    go_wp2_with fail
    refine Al (by kernel_rfl) (by kernel_rfl) ?_;have q0:=Br cf37;have q2:=Bd (cf38);have q3:=Bm cf39;have q7:=Bm cf40;have q11:=Bm cf41;have q15:=Bm cf42;have q19:=Bv cf43;have q24:=Bv cf44
    repeat (first | go_big_quiet_step (((first | (go_at_call 159;exact Am (i_placeOf _ _))))) | quiet_step (((first | (go_at_call 159;exact Am (i_placeOf _ _))))))
    refine wpQuiet_nil ?_;intro w3 hw3;have hz3:=Bc hw3;clear hw3 q0 q2 q3 q7 q11 q15 q19 q24;have HE:=Ac (wf_no (t:=t) hlt (show partOk t p.parts k=false by unfold partOk;rw [show k - 1=j by rw [HJJ.out];rfl,HF.out];simp only [b5];simp;omega))
    try clear cf37
    try clear cf38
    try clear cf39
    try clear cf40
    try clear cf41
    try clear cf42
    try clear cf43
    try clear cf44
    have cf45:=blk2 (Aa ((((hx.t hx1).t hz1).t hx2).t hz3) HB0.out.1);have cf46:=blk1 (Aa ((((hx.t hx1).t hz1).t hx2).t hz3) HB0.out.2);have cf47:=blk4 (Aa ((hz1.t hx2).t hz3) HB1.out);have cf48:=blk4 (Aa hz3 HB2.out);have cf49:=Ag (((hx1.t hz1).t hx2).t hz3) hc;have cf50:=Ag (hx2.t hz3) hd;have cf51:=Av (hx2.t hz3) ht3;have cf52:=hop0_ext (hx2.t hz3) ht4
    go_wp2_with fail
    go_ret
    exact⟨Ah HE.out.symm,(((((hx0.t hx).t hx1).t hz1).t hx2).t hz3)⟩
   have b5':(p.parts[j].hops[lst].asn != p.parts[k].hops[0].asn)=false:=by simp only [bne,b5];rfl
   have cf53:=blk2 (Aa (((hx.t hx1).t hz1).t hx2) HB0.out.1);have cf54:=blk1 (Aa (((hx.t hx1).t hz1).t hx2) HB0.out.2);have cf55:=blk4 (Aa (hz1.t hx2) HB1.out);have cf56:=blk4 HB2.out;have cf57:=Ag ((hx1.t hz1).t hx2) hc;have cf58:=Ag hx2 hd;have cf59:=Av hx2 ht3;have cf60:=hop0_ext hx2 ht4
   go_wp2_with fail
   refine Al (by kernel_rfl) (by kernel_rfl) ?_;have q0:=Br cf53;have q2:=Bd (cf54);have q3:=Bm cf55;have q7:=Bm cf56;have q11:=Bm cf57;have q15:=Bm cf58;have q19:=Bv cf59;have q24:=Bv cf60
   repeat (first | go_big_quiet_step (((first | (go_at_call 159;exact Am (i_placeOf _ _))))) | quiet_step (((first | (go_at_call 159;exact Am (i_placeOf _ _))))))
   refine wpQuiet_nil ?_;intro w4 hw4;have hz4:=Bc hw4;clear hw4 q0 q2 q3 q7 q11 q15 q19 q24;have HK2:=Ac (Ch HK.out (show partOk t p.parts k=true by unfold partOk;rw [show k - 1=j by rw [HJJ.out];rfl,HAT.out,b1,HF.out];simp only [b5,decide_eq_true (show rank p.parts[j].kind<rank p.parts[k].kind by omega)];simp))
   try clear cf53
   try clear cf54
   try clear cf55
   try clear cf56
   try clear cf57
   try clear cf58
   try clear cf59
   try clear cf60
   have cf61:=blk2 (Aa ((((hx.t hx1).t hz1).t hx2).t hz4) HB0.out.1);have cf62:=blk1 (Aa ((((hx.t hx1).t hz1).t hx2).t hz4) HB0.out.2);have cf63:=blk4 (Aa ((hz1.t hx2).t hz4) HB1.out);have cf64:=blk4 (Aa hz4 HB2.out);have cf65:=Ag (((hx1.t hz1).t hx2).t hz4) hc;have cf66:=Ag (hx2.t hz4) hd;have cf67:=Av (hx2.t hz4) ht3;have cf68:=hop0_ext (hx2.t hz4) ht4
   go_wp2_with fail
   go_roundg (gk - 1)
   case measure=>exact HG.out.2
   case rel=>exact⟨k+1,HG.out.1,by go_num,HK2,((((hx.t hx1).t hz1).t hx2).t hz4)⟩
  obtain rfl:k=p.parts.length:=by omega
  have HE:=Ac (HL.out.trans HK.out)
  try clear cf1
  try clear cf2
  have cf69:=blk2 (Aa hx HB0.out.1);have cf70:=blk1 (Aa hx HB0.out.2)
  go_wp2_with fail
  go_ret
  exact⟨Ah HE.out.symm,(hx0.t hx)⟩
theorem s_WellFormedPath (t:Topo) (v1 v2:Value) (p:Pth) (v:Value) (w:World) (ha:RdS ASd.rep w v1 t.ases) (hk:RdS Lnk.rep w v2 t.links) (r:RdS Part.rep w v p.parts) :
  Calls Tryz.prog 150 #[.agg #[v1,v2],.agg #[v]] w fun e w'=>e=.returned (.bool (wfPath t p))∧Ext w w':=by
 obtain⟨o,cap,rfl,hsm⟩:=r.shape;obtain⟨hx0,HB0⟩:=ea2 w (.cells #[v1,v2] 27) (.cells #[.slice o p.parts.length cap] 30);replace HB0:=Ac HB0
 go_enter Tryz.func150,Tryz.ntmps150
 have cf1:=blk2 HB0.out.1;have cf2:=blk1 HB0.out.2
 go_wp2_with fail
 refine(s_l1In _ _ _ _).mono ?_;rintro e _ ⟨rfl,rfl⟩
 cases bb:inR (p.parts.length:Int) 1 3
 ·
  have HE:=Ac (show wfPath t p=false by unfold wfPath;rw [bb];rfl)
  go_wp2_with fail
  go_ret
  exact⟨Ah HE.out.symm,hx0⟩
 have HL:=Ac (show wfPath t p=allTo (partOk t p.parts) p.parts.length by unfold wfPath;rw [bb];rfl);clear bb
 obtain⟨W0,hW0⟩:∃ W0:World,W0=(w.alloc (.cells #[v1,v2] 27)).alloc (.cells #[.slice o p.parts.length cap] 30):=⟨_,rfl⟩
 rw [← hW0] at hx0 HB0
 go_wp2_with fail
 rw [← hW0];clear hW0
 go_loopg [5] p.parts.length (fun gk i wr=>∃ k:Nat,gk+k=p.parts.length∧i=.int .i64 k∧Hid (allTo (partOk t p.parts) k=true)∧Ext W0 wr)
 case atStart=>exact⟨0,rfl,rfl,Ac rfl,Ab _⟩
 case round=>
  obtain⟨k,hgk,rfl,HK,hx⟩:=hrel
  by_cases hlt:k<p.parts.length
  ·
   have HG:=Ac (show gk - 1+(k+1)=p.parts.length∧gk - 1<gk by omega);clear hgk;have HAT:=Ac (Cf hlt);obtain⟨b,off,oh,ch,rfl,hc,hr⟩:=Bx (r.ext (hx0.t hx)) k hlt;have h4:(k:Int)<(p.parts.length:Int):=by omega
   try clear cf1
   try clear cf2
   have cf3:=blk2 (Aa hx HB0.out.1);have cf4:=blk1 (Aa hx HB0.out.2)
   go_wp2_with fail
   refine Al (by kernel_rfl) (by kernel_rfl) ?_;have q0:=Br cf3;have q2:=Bd (cf4);have q3:=Bm hc
   repeat (first | go_big_quiet_step (((first | (go_at_call 183;exact Ai (s_ValidPart t _ _ p.parts[k] _ _ ((ha.ext (hx0.t hx)).ext (ExtW.h _)) ((hk.ext (hx0.t hx)).ext (ExtW.h _)) ((hr.ext (Ab _)).ext (ExtW.h _))))))) | quiet_step (((first | (go_at_call 183;exact Ai (s_ValidPart t _ _ p.parts[k] _ _ ((ha.ext (hx0.t hx)).ext (ExtW.h _)) ((hk.ext (hx0.t hx)).ext (ExtW.h _)) ((hr.ext (Ab _)).ext (ExtW.h _))))))))
   refine wpQuiet_nil ?_;intro w1 hw1;have hz1:=Bc hw1;clear hw1 q0 q2 q3
   cases b1:validPart t p.parts[k]
   ·
    have HE:=Ac (wf_no (t:=t) hlt (show partOk t p.parts k=false by unfold partOk;rw [HAT.out,b1];rfl))
    try clear cf3
    try clear cf4
    have cf5:=blk2 (Aa (hx.t hz1) HB0.out.1);have cf6:=blk1 (Aa (hx.t hz1) HB0.out.2);have cf7:=Ag hz1 hc
    go_wp2_with fail
    go_ret
    exact⟨Ah HE.out.symm,((hx0.t hx).t hz1)⟩
   have hl1:=validPart_len b1
   rcases Nat.eq_zero_or_pos k with rfl | hk0
   ·
    have HK2:Hid (allTo (partOk t p.parts) (0+1)=true):=Ac (Ch rfl (show partOk t p.parts 0=true by unfold partOk;rw [HAT.out,b1];rfl))
    try clear cf3
    try clear cf4
    have cf8:=blk2 (Aa (hx.t hz1) HB0.out.1);have cf9:=blk1 (Aa (hx.t hz1) HB0.out.2);have cf10:=Ag hz1 hc
    go_wp2_with fail
    go_roundg (gk - 1)
    case measure=>exact HG.out.2
    case rel=>exact⟨0+1,HG.out.1,by go_num,HK2,(hx.t hz1)⟩
   obtain⟨j,hj⟩:∃ j,k=j+1:=⟨k - 1,by omega⟩
   have hjl:j<p.parts.length:=by omega
   have hvj:=partOk_valid HK.out (show j<k by omega) hjl;have hl2:=validPart_len hvj;have HJJ:=Ac hj;have hk1:(0:Int)<(k:Int):=by omega
   have hw2:(k:Int) - 1=(j:Int):=by omega
   obtain⟨bj,offj,ohj,chj,ej,hd,hrj⟩:=Bx (r.ext ((hx0.t hx).t hz1)) j hjl
   cases ej
   have h7:(j:Int)<(p.parts.length:Int):=by omega
   have h8:(0:Int)≤(j:Int):=by omega
   have hl3:p.parts[j].hops.length - 1<p.parts[j].hops.length:=by omega
   have hl4:0<p.parts[k].hops.length:=by omega
   have HF:=Ac (followAt_of hj hjl hlt hl3 hl4);have hwl:IntKind.i64.wrap ((p.parts[j].hops.length:Int) - 1)=((p.parts[j].hops.length - 1:Nat):Int):=by rw [IntWalk.i64_in _ (by omega)];omega
   have hl5:((p.parts[j].hops.length - 1:Nat):Int)<(p.parts[j].hops.length:Int):=by omega
   have hl6:(0:Int)≤((p.parts[j].hops.length - 1:Nat):Int):=by omega
   have hl7:(0:Int)<(p.parts[k].hops.length:Int):=by omega
   clear hj hvj;obtain⟨b3,off3,e3,ht3⟩:=Ca hrj (p.parts[j].hops.length - 1) hl3;obtain⟨b4,off4,e4,ht4⟩:=Ca (hr.ext hz1) 0 hl4
   cases e3
   cases e4
   simp only [Nat.zero_mul,Nat.add_zero] at ht4
   try clear cf3
   try clear cf4
   have cf11:=blk2 (Aa (hx.t hz1) HB0.out.1);have cf12:=blk1 (Aa (hx.t hz1) HB0.out.2);have cf13:=Ag hz1 hc;generalize hlst:p.parts[j].hops.length - 1=lst at *;have HLST:=Ac hlst;clear hlst;obtain⟨hx2,HB2⟩:=ea1 w1 (.cells #[.int .i64 p.parts[j].kind,.int .i64 p.parts[j].ts,.int .i64 p.parts[j].beta,.slice (some ⟨b3,off3,none⟩) p.parts[j].hops.length chj] 99);replace HB2:=Ac HB2
   go_wp2_with fail
   clear hw2
   by_cases hge:rank p.parts[k].kind≤rank p.parts[j].kind
   ·
    have hge2:decide (rank p.parts[k].kind≤rank p.parts[j].kind)=true:=decide_eq_true hge;have cf14:=blk2 (Aa ((hx.t hz1).t hx2) HB0.out.1);have cf15:=blk1 (Aa ((hx.t hz1).t hx2) HB0.out.2);have cf16:=blk4 HB2.out;have cf17:=Ag (hz1.t hx2) hc;have cf18:=Ag hx2 hd;have cf19:=Av hx2 ht3;have cf20:=hop0_ext hx2 ht4
    go_wp2_with fail
    refine Al (by kernel_rfl) (by kernel_rfl) ?_;have q0:=Br cf14;have q2:=Bd (cf15);have q3:=Bm cf16;have q7:=Bm cf17;have q11:=Bm cf18;have q15:=Bv cf19;have q20:=Bv cf20
    repeat (first | go_big_quiet_step (((first | (go_at_call 184;exact Am (s_l22Rank _ _))))) | quiet_step (((first | (go_at_call 184;exact Am (s_l22Rank _ _))))))
    refine wpQuiet_nil ?_;intro w2 hw2;have hz2:=Bc hw2;clear hw2 q0 q2 q3 q7 q11 q15 q20;have HE:=Ac (wf_no (t:=t) hlt (show partOk t p.parts k=false by unfold partOk;rw [show k - 1=j by rw [HJJ.out];rfl,HF.out,decide_eq_false (by omega)];simp;omega))
    try clear cf14
    try clear cf15
    try clear cf16
    try clear cf17
    try clear cf18
    try clear cf19
    try clear cf20
    have cf21:=blk2 (Aa (((hx.t hz1).t hx2).t hz2) HB0.out.1);have cf22:=blk1 (Aa (((hx.t hz1).t hx2).t hz2) HB0.out.2);have cf23:=blk4 (Aa hz2 HB2.out);have cf24:=Ag ((hz1.t hx2).t hz2) hc;have cf25:=Ag (hx2.t hz2) hd;have cf26:=Av (hx2.t hz2) ht3;have cf27:=hop0_ext (hx2.t hz2) ht4
    go_wp2_with fail
    go_ret
    exact⟨Ah HE.out.symm,((((hx0.t hx).t hz1).t hx2).t hz2)⟩
   have hge2:decide (rank p.parts[k].kind≤rank p.parts[j].kind)=false:=decide_eq_false hge
   cases b5:(p.parts[j].hops[lst].asn == p.parts[k].hops[0].asn)
   ·
    have b5':(p.parts[j].hops[lst].asn != p.parts[k].hops[0].asn)=true:=by simp only [bne,b5];rfl
    have cf28:=blk2 (Aa ((hx.t hz1).t hx2) HB0.out.1);have cf29:=blk1 (Aa ((hx.t hz1).t hx2) HB0.out.2);have cf30:=blk4 HB2.out;have cf31:=Ag (hz1.t hx2) hc;have cf32:=Ag hx2 hd;have cf33:=Av hx2 ht3;have cf34:=hop0_ext hx2 ht4
    go_wp2_with fail
    refine Al (by kernel_rfl) (by kernel_rfl) ?_;have q0:=Br cf28;have q2:=Bd (cf29);have q3:=Bm cf30;have q7:=Bm cf31;have q11:=Bm cf32;have q15:=Bv cf33;have q20:=Bv cf34
    repeat (first | go_big_quiet_step (((first | (go_at_call 184;exact Am (s_l22Rank _ _))))) | quiet_step (((first | (go_at_call 184;exact Am (s_l22Rank _ _))))))
    refine wpQuiet_nil ?_;intro w3 hw3;have hz3:=Bc hw3;clear hw3 q0 q2 q3 q7 q11 q15 q20;have HE:=Ac (wf_no (t:=t) hlt (show partOk t p.parts k=false by unfold partOk;rw [show k - 1=j by rw [HJJ.out];rfl,HF.out];simp only [b5];simp;omega))
    try clear cf28
    try clear cf29
    try clear cf30
    try clear cf31
    try clear cf32
    try clear cf33
    try clear cf34
    have cf35:=blk2 (Aa (((hx.t hz1).t hx2).t hz3) HB0.out.1);have cf36:=blk1 (Aa (((hx.t hz1).t hx2).t hz3) HB0.out.2);have cf37:=blk4 (Aa hz3 HB2.out);have cf38:=Ag ((hz1.t hx2).t hz3) hc;have cf39:=Ag (hx2.t hz3) hd;have cf40:=Av (hx2.t hz3) ht3;have cf41:=hop0_ext (hx2.t hz3) ht4
    go_wp2_with fail
    go_ret
    exact⟨Ah HE.out.symm,((((hx0.t hx).t hz1).t hx2).t hz3)⟩
   have b5':(p.parts[j].hops[lst].asn != p.parts[k].hops[0].asn)=false:=by simp only [bne,b5];rfl
   have cf42:=blk2 (Aa ((hx.t hz1).t hx2) HB0.out.1);have cf43:=blk1 (Aa ((hx.t hz1).t hx2) HB0.out.2);have cf44:=blk4 HB2.out;have cf45:=Ag (hz1.t hx2) hc;have cf46:=Ag hx2 hd;have cf47:=Av hx2 ht3;have cf48:=hop0_ext hx2 ht4
   go_wp2_with fail
   refine Al (by kernel_rfl) (by kernel_rfl) ?_;have q0:=Br cf42;have q2:=Bd (cf43);have q3:=Bm cf44;have q7:=Bm cf45;have q11:=Bm cf46;have q15:=Bv cf47;have q20:=Bv cf48
   repeat (first | go_big_quiet_step (((first | (go_at_call 184;exact Am (s_l22Rank _ _))))) | quiet_step (((first | (go_at_call 184;exact Am (s_l22Rank _ _))))))
   refine wpQuiet_nil ?_;intro w4 hw4;have hz4:=Bc hw4;clear hw4 q0 q2 q3 q7 q11 q15 q20;have HK2:=Ac (Ch HK.out (show partOk t p.parts k=true by unfold partOk;rw [show k - 1=j by rw [HJJ.out];rfl,HAT.out,b1,HF.out];simp only [b5,decide_eq_true (show rank p.parts[j].kind<rank p.parts[k].kind by omega)];simp))
   try clear cf42
   try clear cf43
   try clear cf44
   try clear cf45
   try clear cf46
   try clear cf47
   try clear cf48
   have cf49:=blk2 (Aa (((hx.t hz1).t hx2).t hz4) HB0.out.1);have cf50:=blk1 (Aa (((hx.t hz1).t hx2).t hz4) HB0.out.2);have cf51:=blk4 (Aa hz4 HB2.out);have cf52:=Ag ((hz1.t hx2).t hz4) hc;have cf53:=Ag (hx2.t hz4) hd;have cf54:=Av (hx2.t hz4) ht3;have cf55:=hop0_ext (hx2.t hz4) ht4
   go_wp2_with fail
   go_roundg (gk - 1)
   case measure=>exact HG.out.2
   case rel=>exact⟨k+1,HG.out.1,by go_num,HK2,(((hx.t hz1).t hx2).t hz4)⟩
  obtain rfl:k=p.parts.length:=by omega
  have HE:=Ac (HL.out.trans HK.out)
  try clear cf1
  try clear cf2
  have cf56:=blk2 (Aa hx HB0.out.1);have cf57:=blk1 (Aa hx HB0.out.2)
  go_wp2_with fail
  go_ret
  exact⟨Ah HE.out.symm,(hx0.t hx)⟩
theorem simple_no {t:Topo} {p:Pth} {k:Nat} (hk:k<(usedIfs (pathSteps p.parts)).length) (h:freshAt (usedIfs (pathSteps p.parts)) k=false):simple t p=false:=by unfold simple;rw [allTo_no hk h];simp
theorem verPart_no {t:Topo} {x:Part} {k:Nat} (hk:k<x.hops.length) (h:verHop t x.ts (betaFor x k) x.hops[k]=false):verPart t x=false:=by
 unfold verPart;exact allTo_no hk (by rw [Bz hk];exact h)
theorem verPath_no {t:Topo} {p:Pth} {k:Nat} (hk:k<p.parts.length) (h:verPart t p.parts[k]=false):verPath t p=false:=by
 unfold verPath;exact allTo_no hk (by rw [Cf hk];exact h)
theorem usable_no {t:Topo} {p:Pth} {now:Int} {k:Nat} (hk:k<p.parts.length) (h:partIn' now p.parts[k]=false):usable t p now=false:=by
 unfold usable;rw [allTo_no hk (by rw [Cf hk];exact h)];simp
theorem i_VerifyPart (t:Topo) (v1 v2:Value) (x:Part) (v:Value) (w:World) (ha:RdS ASd.rep w v1 t.ases) (r:RdS Hop.rep w v x.hops) :
  Calls Tryz.prog 122 #[.agg #[v1,v2],.agg #[.int .i64 x.kind,.int .i64 x.ts,.int .i64 x.beta,v]] w fun e w'=>e=.returned (.bool (verPart t x))∧Ext w w':=by
 obtain⟨o,cap,rfl,hsm⟩:=r.shape;obtain⟨hx0,HB0⟩:=ea2 w (.cells #[v1,v2] 27) (.cells #[.int .i64 x.kind,.int .i64 x.ts,.int .i64 x.beta,.slice o x.hops.length cap] 99);replace HB0:=Ac HB0
 go_enter Tryz.func122,Tryz.ntmps122
 obtain⟨W0,hW0⟩:∃ W0:World,W0=(w.alloc (.cells #[v1,v2] 27)).alloc (.cells #[.int .i64 x.kind,.int .i64 x.ts,.int .i64 x.beta,.slice o x.hops.length cap] 99):=⟨_,rfl⟩
 rw [← hW0] at hx0 HB0;have cf1:=blk2 HB0.out.1;have cf2:=blk4 HB0.out.2
 go_wp2_with fail
 rw [← hW0];clear hW0
 go_loopg [11] x.hops.length (fun gk i wr=>∃ k:Nat,gk+k=x.hops.length∧i=.int .i64 k∧Hid (allTo (fun i=>verHop t x.ts (betaFor x i) (hopAt x.hops i)) k=true)∧Ext W0 wr)
 case atStart=>exact⟨0,rfl,rfl,Ac rfl,Ab _⟩
 case round=>
  obtain⟨k,hgk,rfl,HK,hx⟩:=hrel
  by_cases hlt:k<x.hops.length
  ·
   have HG:=Ac (show gk - 1+(k+1)=x.hops.length∧gk - 1<gk by omega);clear hgk;have HAT:=Ac (Bz hlt);obtain⟨b,off,rfl,hc⟩:=Ca (r.ext (hx0.t hx)) k hlt;have h4:(k:Int)<(x.hops.length:Int):=by omega
   try clear cf1
   try clear cf2
   have cf3:=blk2 (Aa hx HB0.out.1);have cf4:=blk4 (Aa hx HB0.out.2);obtain⟨hx1,HB1⟩:=ea1 wr (.cells #[.int .i64 x.hops[k].asn,.int .i64 x.hops[k].ing,.int .i64 x.hops[k].eg,.int .i64 x.hops[k].exp,.int .i64 x.hops[k].mac] 103);replace HB1:=Ac HB1;have cf5:=blk2 (Aa (hx.t hx1) HB0.out.1);have cf6:=blk4 (Aa (hx.t hx1) HB0.out.2);have cf7:=blk5 HB1.out;have cf8:=Av hx1 hc
   go_wp2_with fail
   refine(i_BetaAfter x _ (k:Int) _ (r.ext ((hx0.t hx).t hx1))).mono ?_;rintro e w1 ⟨rfl,hz1⟩
   try clear cf5
   try clear cf6
   try clear cf7
   try clear cf8
   have cf9:=blk2 (Aa ((hx.t hx1).t hz1) HB0.out.1);have cf10:=blk4 (Aa ((hx.t hx1).t hz1) HB0.out.2);have cf11:=blk5 (Aa hz1 HB1.out);have cf12:=Av (hx1.t hz1) hc
   go_wp2_with fail
   refine(i_IsReversed _ _).mono ?_;rintro e _ ⟨rfl,rfl⟩
   cases b0:isRev x.kind
   ·
    have HBF:=Ac (betaFor_no (k:=k) b0);rw [← HBF.out];generalize hbe:betaFor x k=be at *;have HBE:=Ac hbe;clear hbe HBF
    go_wp2_with fail
    refine(i_VerifyHop t _ _ _ be x.hops[k] _ (ha.ext (((hx0.t hx).t hx1).t hz1))).mono ?_;rintro e w3 ⟨rfl,hz3⟩;rw [← HBE.out];clear HBE
    cases b1:verHop t x.ts (betaFor x k) x.hops[k]
    ·
     have HE:=Ac (verPart_no hlt b1)
     try clear cf9
     try clear cf10
     try clear cf11
     try clear cf12
     have cf13:=blk2 (Aa (((hx.t hx1).t hz1).t hz3) HB0.out.1);have cf14:=blk4 (Aa (((hx.t hx1).t hz1).t hz3) HB0.out.2);have cf15:=blk5 (Aa (hz1.t hz3) HB1.out);have cf16:=Av ((hx1.t hz1).t hz3) hc
     go_wp2_with fail
     go_ret
     exact⟨Ah HE.out.symm,((((hx0.t hx).t hx1).t hz1).t hz3)⟩
    have HK2:=Ac (Ch HK.out (show verHop t x.ts (betaFor x k) (hopAt x.hops k)=true by rw [HAT.out];exact b1))
    try clear cf9
    try clear cf10
    try clear cf11
    try clear cf12
    have cf17:=blk2 (Aa (((hx.t hx1).t hz1).t hz3) HB0.out.1);have cf18:=blk4 (Aa (((hx.t hx1).t hz1).t hz3) HB0.out.2);have cf19:=blk5 (Aa (hz1.t hz3) HB1.out);have cf20:=Av ((hx1.t hz1).t hz3) hc
    go_wp2_with fail
    go_roundg (gk - 1)
    case measure=>exact HG.out.2
    case rel=>exact⟨k+1,HG.out.1,by go_num,HK2,(((hx.t hx1).t hz1).t hz3)⟩
   go_wp2_with fail
   refine(i_BetaAfter x _ ((k:Int)+1) _ (r.ext (((hx0.t hx).t hx1).t hz1))).mono ?_;rintro e w4 ⟨rfl,hz4⟩;have HBF:=Ac (betaFor_yes (k:=k) b0);rw [← HBF.out];generalize hbe:betaFor x k=be at *;have HBE:=Ac hbe;clear hbe HBF
   try clear cf9
   try clear cf10
   try clear cf11
   try clear cf12
   have cf21:=blk2 (Aa (((hx.t hx1).t hz1).t hz4) HB0.out.1);have cf22:=blk4 (Aa (((hx.t hx1).t hz1).t hz4) HB0.out.2);have cf23:=blk5 (Aa (hz1.t hz4) HB1.out);have cf24:=Av ((hx1.t hz1).t hz4) hc
   go_wp2_with fail
   refine(i_VerifyHop t _ _ _ be x.hops[k] _ (ha.ext ((((hx0.t hx).t hx1).t hz1).t hz4))).mono ?_;rintro e w5 ⟨rfl,hz5⟩;rw [← HBE.out];clear HBE
   cases b1:verHop t x.ts (betaFor x k) x.hops[k]
   ·
    have HE:=Ac (verPart_no hlt b1)
    try clear cf21
    try clear cf22
    try clear cf23
    try clear cf24
    have cf25:=blk2 (Aa ((((hx.t hx1).t hz1).t hz4).t hz5) HB0.out.1);have cf26:=blk4 (Aa ((((hx.t hx1).t hz1).t hz4).t hz5) HB0.out.2);have cf27:=blk5 (Aa ((hz1.t hz4).t hz5) HB1.out);have cf28:=Av (((hx1.t hz1).t hz4).t hz5) hc
    go_wp2_with fail
    go_ret
    exact⟨Ah HE.out.symm,(((((hx0.t hx).t hx1).t hz1).t hz4).t hz5)⟩
   have HK2:=Ac (Ch HK.out (show verHop t x.ts (betaFor x k) (hopAt x.hops k)=true by rw [HAT.out];exact b1))
   try clear cf21
   try clear cf22
   try clear cf23
   try clear cf24
   have cf29:=blk2 (Aa ((((hx.t hx1).t hz1).t hz4).t hz5) HB0.out.1);have cf30:=blk4 (Aa ((((hx.t hx1).t hz1).t hz4).t hz5) HB0.out.2);have cf31:=blk5 (Aa ((hz1.t hz4).t hz5) HB1.out);have cf32:=Av (((hx1.t hz1).t hz4).t hz5) hc
   go_wp2_with fail
   go_roundg (gk - 1)
   case measure=>exact HG.out.2
   case rel=>exact⟨k+1,HG.out.1,by go_num,HK2,((((hx.t hx1).t hz1).t hz4).t hz5)⟩
  obtain rfl:k=x.hops.length:=by omega
  have HE:Hid (verPart t x=true):=Ac HK.out
  try clear cf1
  try clear cf2
  have cf33:=blk2 (Aa hx HB0.out.1);have cf34:=blk4 (Aa hx HB0.out.2)
  go_wp2_with fail
  go_ret
  exact⟨Ah HE.out.symm,(hx0.t hx)⟩
theorem i_VerifyPath (t:Topo) (v1 v2:Value) (p:Pth) (v:Value) (w:World) (ha:RdS ASd.rep w v1 t.ases) (r:RdS Part.rep w v p.parts) :
  Calls Tryz.prog 70 #[.agg #[v1,v2],.agg #[v]] w fun e w'=>e=.returned (.bool (verPath t p))∧Ext w w':=by
 obtain⟨o,cap,rfl,hsm⟩:=r.shape;obtain⟨hx0,HB0⟩:=ea2 w (.cells #[v1,v2] 27) (.cells #[.slice o p.parts.length cap] 30);replace HB0:=Ac HB0
 go_enter Tryz.func70,Tryz.ntmps70
 obtain⟨W0,hW0⟩:∃ W0:World,W0=(w.alloc (.cells #[v1,v2] 27)).alloc (.cells #[.slice o p.parts.length cap] 30):=⟨_,rfl⟩
 rw [← hW0] at hx0 HB0;have cf1:=blk2 HB0.out.1;have cf2:=blk1 HB0.out.2
 go_wp2_with fail
 rw [← hW0];clear hW0
 go_loopg [10] p.parts.length (fun gk i wr=>∃ k:Nat,gk+k=p.parts.length∧i=.int .i64 k∧Hid (allTo (fun i=>verPart t (partAt p.parts i)) k=true)∧Ext W0 wr)
 case atStart=>exact⟨0,rfl,rfl,Ac rfl,Ab _⟩
 case round=>
  obtain⟨k,hgk,rfl,HK,hx⟩:=hrel
  by_cases hlt:k<p.parts.length
  ·
   have HG:=Ac (show gk - 1+(k+1)=p.parts.length∧gk - 1<gk by omega);clear hgk;have HAT:=Ac (Cf hlt);obtain⟨b,off,oh,ch,rfl,hc,hr⟩:=Bx (r.ext (hx0.t hx)) k hlt;have h4:(k:Int)<(p.parts.length:Int):=by omega
   try clear cf1
   try clear cf2
   have cf3:=blk2 (Aa hx HB0.out.1);have cf4:=blk1 (Aa hx HB0.out.2);obtain⟨hx1,HB1⟩:=ea1 wr (.cells #[.int .i64 p.parts[k].kind,.int .i64 p.parts[k].ts,.int .i64 p.parts[k].beta,.slice oh p.parts[k].hops.length ch] 99);replace HB1:=Ac HB1;have cf5:=blk2 (Aa (hx.t hx1) HB0.out.1);have cf6:=blk1 (Aa (hx.t hx1) HB0.out.2);have cf7:=blk4 HB1.out;have cf8:=Ag hx1 hc
   go_wp2_with fail
   refine(i_VerifyPart t _ _ p.parts[k] _ _ (ha.ext ((hx0.t hx).t hx1)) (hr.ext hx1)).mono ?_;rintro e w1 ⟨rfl,hz1⟩
   cases b1:verPart t p.parts[k]
   ·
    have HE:=Ac (verPath_no hlt b1)
    try clear cf5
    try clear cf6
    try clear cf7
    try clear cf8
    have cf9:=blk2 (Aa ((hx.t hx1).t hz1) HB0.out.1);have cf10:=blk1 (Aa ((hx.t hx1).t hz1) HB0.out.2);have cf11:=blk4 (Aa hz1 HB1.out);have cf12:=Ag (hx1.t hz1) hc
    go_wp2_with fail
    go_ret
    exact⟨Ah HE.out.symm,(((hx0.t hx).t hx1).t hz1)⟩
   have HK2:=Ac (Ch HK.out (show verPart t (partAt p.parts k)=true by rw [HAT.out];exact b1))
   try clear cf5
   try clear cf6
   try clear cf7
   try clear cf8
   have cf13:=blk2 (Aa ((hx.t hx1).t hz1) HB0.out.1);have cf14:=blk1 (Aa ((hx.t hx1).t hz1) HB0.out.2);have cf15:=blk4 (Aa hz1 HB1.out);have cf16:=Ag (hx1.t hz1) hc
   go_wp2_with fail
   go_roundg (gk - 1)
   case measure=>exact HG.out.2
   case rel=>exact⟨k+1,HG.out.1,by go_num,HK2,((hx.t hx1).t hz1)⟩
  obtain rfl:k=p.parts.length:=by omega
  have HE:Hid (verPath t p=true):=Ac HK.out
  try clear cf1
  try clear cf2
  have cf17:=blk2 (Aa hx HB0.out.1);have cf18:=blk1 (Aa hx HB0.out.2)
  go_wp2_with fail
  go_ret
  exact⟨Ah HE.out.symm,(hx0.t hx)⟩
theorem i_SimplePath (t:Topo) (v1 v2:Value) (p:Pth) (v:Value) (w:World) (ha:RdS ASd.rep w v1 t.ases) (hk:RdS Lnk.rep w v2 t.links) (r:RdS Part.rep w v p.parts) (hl:p.size≤1048576) :
  Calls Tryz.prog 69 #[.agg #[v1,v2],.agg #[v]] w fun e w'=>e=.returned (.bool (simple t p))∧Ext w w':=by
 obtain⟨o,cap,rfl,hsm⟩:=r.shape;obtain⟨hx0,HB0⟩:=ea2 w (.cells #[v1,v2] 27) (.cells #[.slice o p.parts.length cap] 30);replace HB0:=Ac HB0
 go_enter Tryz.func69,Tryz.ntmps69
 have cf1:=blk2 HB0.out.1;have cf2:=blk1 HB0.out.2
 go_wp2_with fail
 refine(i_WellFormedPath t _ _ p _ _ (ha.ext hx0) (hk.ext hx0) (r.ext hx0)).mono ?_;rintro e w1 ⟨rfl,hz1⟩
 cases bb:wfPath t p
 ·
  have HE:=Ac (show simple t p=false by unfold simple;rw [bb];rfl)
  try clear cf1
  try clear cf2
  have cf3:=blk2 (Aa hz1 HB0.out.1);have cf4:=blk1 (Aa hz1 HB0.out.2)
  go_wp2_with fail
  go_ret
  exact⟨Ah HE.out.symm,(hx0.t hz1)⟩
 have HS:=Ac (show simple t p=allTo (freshAt (usedIfs (pathSteps p.parts))) (usedIfs (pathSteps p.parts)).length by unfold simple;rw [bb];rfl);have hul:=usedIfs_len (pathSteps p.parts);have hpl:=pathSteps_len p.parts;have HNO:=Ac (fun(k:Nat)=>simple_no (t:=t) (p:=p) (k:=k));clear bb
 try clear cf1
 try clear cf2
 have cf5:=blk2 (Aa hz1 HB0.out.1);have cf6:=blk1 (Aa hz1 HB0.out.2)
 go_wp2_with fail
 refine(i_InterfacesUsed p _ _ (r.ext (hx0.t hz1)) hl).mono ?_;rintro e w2 ⟨u,rfl,oq,hz2⟩;generalize usedIfs (pathSteps p.parts)=l at *;obtain⟨og,cg,rfl,_⟩:=(Bo oq).shape;have hcg:=(Bo oq).capLe;have hqr:=Bo oq;clear oq
 try clear cf5
 try clear cf6
 have cf7:=blk2 (Aa (hz1.t hz2) HB0.out.1);have cf8:=blk1 (Aa (hz1.t hz2) HB0.out.2)
 go_wp2_with fail
 go_loopg [16] l.length (fun gk i wr=>∃ k:Nat,gk+k=l.length∧i=.int .i64 k∧Hid (allTo (freshAt l) k=true)∧Ext w2 wr)
 case atStart=>exact⟨0,rfl,rfl,Ac rfl,Ab _⟩
 case round=>
  obtain⟨k,hgk,rfl,HK,hx⟩:=hrel
  by_cases hlt:k<l.length
  ·
   have HG:=Ac (show gk - 1+(k+1)=l.length∧gk - 1<gk by omega);clear hgk;have HAT:=Ac (freshAt_at hlt);obtain⟨bq,oq,rfl,hq⟩:=ints_at (hqr.ext hx) k hlt;have hqk:=RdS.upto hqr k (by omega);have hkc:k≤cg:=by omega
   have h4:(k:Int)<(l.length:Int):=by omega
   have h6:(k:Int)≤(cg:Int):=by omega
   try clear cf7
   try clear cf8
   have cf9:=blk2 (Aa ((hz1.t hz2).t hx) HB0.out.1);have cf10:=blk1 (Aa ((hz1.t hz2).t hx) HB0.out.2)
   go_wp2_with fail
   refine(i_hasInt (l.take k) _ l[k] _ (hqk.ext hx)).mono ?_;rintro e _ ⟨rfl,rfl⟩
   cases b1:hasI (l.take k) l[k]
   ·
    have HK2:=Ac (Ch HK.out (show freshAt l k=true by rw [HAT.out,b1];rfl))
    go_wp2_with fail
    go_roundg (gk - 1)
    case measure=>exact HG.out.2
    case rel=>exact⟨k+1,HG.out.1,by go_num,HK2,hx⟩
   have HE:=Ac (HNO.out k hlt (by rw [HAT.out,b1];rfl))
   go_wp2_with fail
   go_ret
   exact⟨Ah HE.out.symm,(((hx0.t hz1).t hz2).t hx)⟩
  obtain rfl:k=l.length:=by omega
  have HE:=Ac (HS.out.trans HK.out)
  try clear cf7
  try clear cf8
  have cf11:=blk2 (Aa ((hz1.t hz2).t hx) HB0.out.1);have cf12:=blk1 (Aa ((hz1.t hz2).t hx) HB0.out.2)
  go_wp2_with fail
  go_ret
  exact⟨Ah HE.out.symm,(((hx0.t hz1).t hz2).t hx)⟩
theorem s_SimplePath (t:Topo) (v1 v2:Value) (p:Pth) (v:Value) (w:World) (ha:RdS ASd.rep w v1 t.ases) (hk:RdS Lnk.rep w v2 t.links) (r:RdS Part.rep w v p.parts) (hl:p.size≤1048576) :
  Calls Tryz.prog 99 #[.agg #[v1,v2],.agg #[v]] w fun e w'=>e=.returned (.bool (simple t p))∧Ext w w':=by
 obtain⟨o,cap,rfl,hsm⟩:=r.shape;obtain⟨hx0,HB0⟩:=ea2 w (.cells #[v1,v2] 27) (.cells #[.slice o p.parts.length cap] 30);replace HB0:=Ac HB0
 go_enter Tryz.func99,Tryz.ntmps99
 have cf1:=blk2 HB0.out.1;have cf2:=blk1 HB0.out.2
 go_wp2_with fail
 refine(s_WellFormedPath t _ _ p _ _ (ha.ext hx0) (hk.ext hx0) (r.ext hx0)).mono ?_;rintro e w1 ⟨rfl,hz1⟩
 cases bb:wfPath t p
 ·
  have HE:=Ac (show simple t p=false by unfold simple;rw [bb];rfl)
  try clear cf1
  try clear cf2
  have cf3:=blk2 (Aa hz1 HB0.out.1);have cf4:=blk1 (Aa hz1 HB0.out.2)
  go_wp2_with fail
  go_ret
  exact⟨Ah HE.out.symm,(hx0.t hz1)⟩
 have HS:=Ac (show simple t p=allTo (freshAt (usedIfs (pathSteps p.parts))) (usedIfs (pathSteps p.parts)).length by unfold simple;rw [bb];rfl);have hul:=usedIfs_len (pathSteps p.parts);have hpl:=pathSteps_len p.parts;have HNO:=Ac (fun(k:Nat)=>simple_no (t:=t) (p:=p) (k:=k));clear bb
 try clear cf1
 try clear cf2
 have cf5:=blk2 (Aa hz1 HB0.out.1);have cf6:=blk1 (Aa hz1 HB0.out.2)
 go_wp2_with fail
 refine(s_InterfacesUsed p _ _ (r.ext (hx0.t hz1)) hl).mono ?_;rintro e w2 ⟨u,rfl,oq,hz2⟩;generalize usedIfs (pathSteps p.parts)=l at *;obtain⟨og,cg,rfl,_⟩:=(Bo oq).shape;have hcg:=(Bo oq).capLe;have hqr:=Bo oq;clear oq
 try clear cf5
 try clear cf6
 have cf7:=blk2 (Aa (hz1.t hz2) HB0.out.1);have cf8:=blk1 (Aa (hz1.t hz2) HB0.out.2)
 go_wp2_with fail
 go_loopg [6] l.length (fun gk i wr=>∃ k:Nat,gk+k=l.length∧i=.int .i64 k∧Hid (allTo (freshAt l) k=true)∧Ext w2 wr)
 case atStart=>exact⟨0,rfl,rfl,Ac rfl,Ab _⟩
 case round=>
  obtain⟨k,hgk,rfl,HK,hx⟩:=hrel
  by_cases hlt:k<l.length
  ·
   have HG:=Ac (show gk - 1+(k+1)=l.length∧gk - 1<gk by omega);clear hgk;have HAT:=Ac (freshAt_at hlt);obtain⟨bq,oq,rfl,hq⟩:=ints_at (hqr.ext hx) k hlt;have hqk:=RdS.upto hqr k (by omega);have hkc:k≤cg:=by omega
   have h4:(k:Int)<(l.length:Int):=by omega
   have h6:(k:Int)≤(cg:Int):=by omega
   try clear cf7
   try clear cf8
   have cf9:=blk2 (Aa ((hz1.t hz2).t hx) HB0.out.1);have cf10:=blk1 (Aa ((hz1.t hz2).t hx) HB0.out.2)
   go_wp2_with fail
   refine Al (by kernel_rfl) (by kernel_rfl) ?_;have q0:=Br cf9;have q2:=Bd (cf10);have q3:=Bd (hq)
   repeat (first | go_big_quiet_step (((first | (go_at_call 56;exact Am (s_l9Has (l.take k) _ l[k] _ ((hqk.ext hx).ext (ExtW.h _))))))) | quiet_step (((first | (go_at_call 56;exact Am (s_l9Has (l.take k) _ l[k] _ ((hqk.ext hx).ext (ExtW.h _))))))))
   refine wpQuiet_nil ?_;intro w3 hw3;have hz3:=Bc hw3;clear hw3 q0 q2 q3
   cases b1:hasI (l.take k) l[k]
   ·
    have HK2:=Ac (Ch HK.out (show freshAt l k=true by rw [HAT.out,b1];rfl))
    try clear cf9
    try clear cf10
    have cf11:=blk2 (Aa (((hz1.t hz2).t hx).t hz3) HB0.out.1);have cf12:=blk1 (Aa (((hz1.t hz2).t hx).t hz3) HB0.out.2);have cf13:=By hz3 hq
    go_wp2_with fail
    go_roundg (gk - 1)
    case measure=>exact HG.out.2
    case rel=>exact⟨k+1,HG.out.1,by go_num,HK2,(hx.t hz3)⟩
   have HE:=Ac (HNO.out k hlt (by rw [HAT.out,b1];rfl))
   try clear cf9
   try clear cf10
   have cf14:=blk2 (Aa (((hz1.t hz2).t hx).t hz3) HB0.out.1);have cf15:=blk1 (Aa (((hz1.t hz2).t hx).t hz3) HB0.out.2);have cf16:=By hz3 hq
   go_wp2_with fail
   go_ret
   exact⟨Ah HE.out.symm,((((hx0.t hz1).t hz2).t hx).t hz3)⟩
  obtain rfl:k=l.length:=by omega
  have HE:=Ac (HS.out.trans HK.out)
  try clear cf7
  try clear cf8
  have cf17:=blk2 (Aa ((hz1.t hz2).t hx) HB0.out.1);have cf18:=blk1 (Aa ((hz1.t hz2).t hx) HB0.out.2)
  go_wp2_with fail
  go_ret
  exact⟨Ah HE.out.symm,(((hx0.t hz1).t hz2).t hx)⟩
theorem s_HopValidAt (h:Hop) (now:Int) (w:World) :
  Calls Tryz.prog 188 #[.agg #[.int .i64 h.asn,.int .i64 h.ing,.int .i64 h.eg,.int .i64 h.exp,.int .i64 h.mac],.int .i64 now] w fun e w'=>e=.returned (.bool (decide (now≤h.exp)))∧Ext w w':=by
 go_enter Tryz.func188,Tryz.ntmps188
 go_wp2
 go_ret
 exact⟨rfl,(Ab _).alloc _⟩
theorem i_HopValidAt (h:Hop) (now:Int) (w:World) :
  Calls Tryz.prog 199 #[.agg #[.int .i64 h.asn,.int .i64 h.ing,.int .i64 h.eg,.int .i64 h.exp,.int .i64 h.mac],.int .i64 now] w fun e w'=>e=.returned (.bool (decide (now≤h.exp)))∧Ext w w':=by
 go_enter Tryz.func199,Tryz.ntmps199
 go_wp2
 go_ret
 exact⟨rfl,(Ab _).alloc _⟩
theorem i_PathUsable (t:Topo) (v1 v2:Value) (p:Pth) (v:Value) (now:Int) (w:World) (ha:RdS ASd.rep w v1 t.ases) (hk:RdS Lnk.rep w v2 t.links) (r:RdS Part.rep w v p.parts) (hl:p.size≤1048576) :
  Calls Tryz.prog 24 #[.agg #[v1,v2],.agg #[v],.int .i64 now] w fun e w'=>e=.returned (.bool (usable t p now))∧Ext w w':=by
 obtain⟨o,cap,rfl,hsm⟩:=r.shape;obtain⟨hx0,HB0⟩:=ea2 w (.cells #[v1,v2] 27) (.cells #[.slice o p.parts.length cap] 30);replace HB0:=Ac HB0
 go_enter Tryz.func24,Tryz.ntmps24
 have cf1:=blk2 HB0.out.1;have cf2:=blk1 HB0.out.2
 go_wp2_with fail
 refine(i_SimplePath t _ _ p _ _ (ha.ext hx0) (hk.ext hx0) (r.ext hx0) hl).mono ?_;rintro e w1 ⟨rfl,hz1⟩
 cases bb:simple t p
 ·
  have HE:=Ac (show usable t p now=false by unfold usable;rw [bb];rfl)
  try clear cf1
  try clear cf2
  have cf3:=blk2 (Aa hz1 HB0.out.1);have cf4:=blk1 (Aa hz1 HB0.out.2)
  go_wp2_with fail
  go_ret
  exact⟨Ah HE.out.symm,(hx0.t hz1)⟩
 have B1:=Ac bb;clear bb
 try clear cf1
 try clear cf2
 have cf5:=blk2 (Aa hz1 HB0.out.1);have cf6:=blk1 (Aa hz1 HB0.out.2)
 go_wp2_with fail
 refine(i_VerifyPath t _ _ p _ _ (ha.ext (hx0.t hz1)) (r.ext (hx0.t hz1))).mono ?_;rintro e w2 ⟨rfl,hz2⟩
 cases bb:verPath t p
 ·
  have HE:=Ac (show usable t p now=false by unfold usable;rw [bb];simp)
  try clear cf5
  try clear cf6
  have cf7:=blk2 (Aa (hz1.t hz2) HB0.out.1);have cf8:=blk1 (Aa (hz1.t hz2) HB0.out.2)
  go_wp2_with fail
  go_ret
  exact⟨Ah HE.out.symm,((hx0.t hz1).t hz2)⟩
 have HU:=Ac (show usable t p now=allTo (fun i=>partIn' now (partAt p.parts i)) p.parts.length by unfold usable;rw [B1.out,bb];rfl);clear bb
 try clear cf5
 try clear cf6
 have cf9:=blk2 (Aa (hz1.t hz2) HB0.out.1);have cf10:=blk1 (Aa (hz1.t hz2) HB0.out.2)
 go_wp2_with fail
 go_loopg [22] p.parts.length (fun gk i wr=>∃ k:Nat,gk+k=p.parts.length∧i=.int .i64 k∧Hid (allTo (fun i=>partIn' now (partAt p.parts i)) k=true)∧Ext w2 wr)
 case atStart=>exact⟨0,rfl,rfl,Ac rfl,Ab _⟩
 case round=>
  obtain⟨k,hgk,rfl,HK,hx⟩:=hrel
  by_cases hlt:k<p.parts.length
  ·
   have HG:=Ac (show gk - 1+(k+1)=p.parts.length∧gk - 1<gk by omega);clear hgk;have HAT:=Ac (Cf hlt);obtain⟨b,off,oh,ch,rfl,hc,hr⟩:=Bx (r.ext (((hx0.t hz1).t hz2).t hx)) k hlt;have h4:(k:Int)<(p.parts.length:Int):=by omega
   have hpl:=validPart_len (simple_valid B1.out hlt);have HLI:=Ac (least_in (now:=now) (l:=p.parts[k].hops) (by omega))
   try clear cf9
   try clear cf10
   have cf11:=blk2 (Aa ((hz1.t hz2).t hx) HB0.out.1);have cf12:=blk1 (Aa ((hz1.t hz2).t hx) HB0.out.2);obtain⟨hx1,HB1⟩:=ea1 wr (.cells #[.int .i64 p.parts[k].kind,.int .i64 p.parts[k].ts,.int .i64 p.parts[k].beta,.slice oh p.parts[k].hops.length ch] 99);replace HB1:=Ac HB1
   by_cases h5:now<p.parts[k].ts
   ·
    have HE:=Ac (usable_no (t:=t) hlt (show partIn' now p.parts[k]=false by unfold partIn';rw [decide_eq_false (by omega)];rfl));have cf13:=blk2 (Aa (((hz1.t hz2).t hx).t hx1) HB0.out.1);have cf14:=blk1 (Aa (((hz1.t hz2).t hx).t hx1) HB0.out.2);have cf15:=blk4 HB1.out;have cf16:=Ag hx1 hc
    go_wp2_with fail
    go_ret
    exact⟨Ah HE.out.symm,((((hx0.t hz1).t hz2).t hx).t hx1)⟩
   have cf17:=blk2 (Aa (((hz1.t hz2).t hx).t hx1) HB0.out.1);have cf18:=blk1 (Aa (((hz1.t hz2).t hx).t hx1) HB0.out.2);have cf19:=blk4 HB1.out;have cf20:=Ag hx1 hc
   go_wp2_with fail
   refine(i_leastExpiry p.parts[k].hops _ _ (hr.ext hx1)).mono ?_;rintro e w3 ⟨rfl,hz3⟩;generalize leastExp p.parts[k].hops=m at *
   by_cases h6:m<now
   ·
    have HE:=Ac (usable_no (t:=t) hlt (show partIn' now p.parts[k]=false by unfold partIn';rw [HLI.out,decide_eq_false (show ¬ now≤m by omega)];simp))
    try clear cf17
    try clear cf18
    try clear cf19
    try clear cf20
    have cf21:=blk2 (Aa ((((hz1.t hz2).t hx).t hx1).t hz3) HB0.out.1);have cf22:=blk1 (Aa ((((hz1.t hz2).t hx).t hx1).t hz3) HB0.out.2);have cf23:=blk4 (Aa hz3 HB1.out);have cf24:=Ag (hx1.t hz3) hc
    go_wp2_with fail
    go_ret
    exact⟨Ah HE.out.symm,(((((hx0.t hz1).t hz2).t hx).t hx1).t hz3)⟩
   have HK2:=Ac (Ch HK.out (show partIn' now (partAt p.parts k)=true by rw [HAT.out];unfold partIn';rw [decide_eq_true (show p.parts[k].ts≤now by omega),HLI.out,decide_eq_true (show now≤m by omega)];rfl))
   try clear cf17
   try clear cf18
   try clear cf19
   try clear cf20
   have cf25:=blk2 (Aa ((((hz1.t hz2).t hx).t hx1).t hz3) HB0.out.1);have cf26:=blk1 (Aa ((((hz1.t hz2).t hx).t hx1).t hz3) HB0.out.2);have cf27:=blk4 (Aa hz3 HB1.out);have cf28:=Ag (hx1.t hz3) hc
   go_wp2_with fail
   go_roundg (gk - 1)
   case measure=>exact HG.out.2
   case rel=>exact⟨k+1,HG.out.1,by go_num,HK2,((hx.t hx1).t hz3)⟩
  obtain rfl:k=p.parts.length:=by omega
  have HE:=Ac (HU.out.trans HK.out)
  try clear cf9
  try clear cf10
  have cf29:=blk2 (Aa ((hz1.t hz2).t hx) HB0.out.1);have cf30:=blk1 (Aa ((hz1.t hz2).t hx) HB0.out.2)
  go_wp2_with fail
  go_ret
  exact⟨Ah HE.out.symm,(((hx0.t hz1).t hz2).t hx)⟩
end
section
open Go.RowKit
structure Out (t : Topo) (p : Pth) (x : Pkt) : Prop where
  path:x.path=p
  vp:validPkt x=true
  at_:curAs x=x.src
  beta:betaOk x
  want:wantIn x=0
  walk:walkAt x 0=pathSteps p.parts
  dst:∀ s,(pathSteps p.parts).getLast?=some s→s.asn=x.dst
  has:hasHop x=true
theorem usable_of {t:Topo} {p:Pth} {now:Int} (h:usable t p now=true):simple t p=true∧(∀ j i,validAt p.parts j i→verAt t p.parts j i=true)∧(∀ j i,validAt p.parts j i→timeAt now p.parts j i=true):=by
 unfold usable verPath at h;simp only [Bool.and_eq_true] at h;obtain⟨⟨h1,h2⟩,h3⟩:=h;rw [allTo_true] at h2 h3;refine⟨h1,fun j i hv=>?_,fun j i hv=>?_⟩
 ·
  have:=h2 j hv.1;unfold verPart at this;exact allTo_true.1 this i hv.2
 have:=h3 j hv.1;unfold partIn' hopsIn at this;simp only [Bool.and_eq_true,List.all_eq_true] at this;unfold timeAt;rw [Bz hv.2];simp only [Bool.and_eq_true];exact⟨this.1,this.2 _ (List.getElem_mem _)⟩
end
end Go.Proofs.YteodlcpeoaggbaaGreat
