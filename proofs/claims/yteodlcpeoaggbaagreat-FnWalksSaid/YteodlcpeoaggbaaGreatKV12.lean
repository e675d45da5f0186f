/- What these laws need: FnOld, FnWalks: Contracts of the tests of parts and paths, program and reference. The least expiry of a row of hop fields. -/
import Derived.Deep.LoopGhost
import Derived.Test.YteodlcpeoaggbaaGreatKV10
namespace Go.Proofs.YteodlcpeoaggbaaGreat
section
open Go.ChangeShapes Go.WideShapes Go.ChangeAt Go.RowKit Go.Deep
set_option maxRecDepth 100000
set_option maxHeartbeats 8000000
theorem joinAt_of {t:Topo} {x:Part} {k:Nat} (h1:k<x.hops.length) (h2:k+1<x.hops.length) :
  joinAt t x k=((partEg x k != 0) && ((remEnd t x.hops[k].asn (partEg x k)).1 == x.hops[k+1].asn) && ((remEnd t x.hops[k].asn (partEg x k)).2 == partIn x ((k:Int)+1))):=by
 unfold joinAt;rw [Bz h1,Bz h2];push_cast;rfl
theorem validPart_1 {t:Topo} {x:Part} (h:inR x.kind 1 4=false):validPart t x=false:=by unfold validPart;rw [h];rfl
theorem validPart_2 {t:Topo} {x:Part} (h:hopsOk t x.hops=false):validPart t x=false:=by unfold validPart;rw [h];simp
theorem validPart_3 {t:Topo} {x:Part} (h:inR x.ts 0 1000000=false):validPart t x=false:=by unfold validPart;rw [h];simp
theorem validPart_4 {t:Topo} {x:Part} (h:isRes x.beta=false):validPart t x=false:=by unfold validPart;rw [h];simp
theorem validPart_5 {t:Topo} {x:Part} {k:Nat} (hk:k<x.hops.length - 1) (h:joinAt t x k=false):validPart t x=false:=by unfold validPart;rw [allTo_no hk h];simp
theorem validPart_6 {t:Topo} {x:Part} (h:inR (x.hops.length:Int) 1 8=false):validPart t x=false:=validPart_2 (by unfold hopsOk;rw [h];rfl)
theorem validPart_7 {t:Topo} {x:Part} {k:Nat} (hk:k<x.hops.length) (h:hopFresh t x.hops k=false):validPart t x=false:=validPart_2 (by unfold hopsOk;rw [allTo_no hk h];simp)
theorem validPart_len {t:Topo} {x:Part} (h:validPart t x=true):1≤x.hops.length∧x.hops.length≤8:=by
 unfold validPart hopsOk at h;simp only [Bool.and_eq_true] at h;have:=Bk.1 h.1.1.1.2.1;omega
theorem s_l21Realms (x:Part) (v:Value) (w:World) (r:RdS Hop.rep w v x.hops) (hl:x.hops.length≤1048576) :
  Calls Tryz.prog 201 #[.agg #[.int .i64 x.kind,.int .i64 x.ts,.int .i64 x.beta,v]] w fun e w'=>∃ v',e=.returned v'∧OwnF intF 1 w.heap.size 3 w' v' (x.hops.map (·.asn))∧Ext w w':=by
 obtain⟨o,cap,rfl,hsm⟩:=r.shape;obtain⟨E⟩:=elemInt
 obtain⟨ml,hml⟩:∃ ml,ml=x.hops.map (·.asn):=⟨_,rfl⟩
 have hlm:ml.length=x.hops.length:=by rw [hml,List.length_map]
 have HAT:Hid (∀ (k:Nat) (h:k<ml.length) (h':k<x.hops.length),ml[k]=x.hops[k].asn):=Ac (by intro k h h';subst hml;exact List.getElem_map _);rw [← hml];clear hml;have HLM:=Ac hlm;clear hlm;obtain⟨hx0,HB0⟩:=ea1 w (.cells #[.int .i64 x.kind,.int .i64 x.ts,.int .i64 x.beta,.slice o x.hops.length cap] 99);replace HB0:=Ac HB0
 go_enter Tryz.func201,Tryz.ntmps201
 have ho0:=Bj intF 1 (w.alloc (.cells #[.int .i64 x.kind,.int .i64 x.ts,.int .i64 x.beta,.slice o x.hops.length cap] 99)).heap.size 3 (w.alloc (.cells #[.int .i64 x.kind,.int .i64 x.ts,.int .i64 x.beta,.slice o x.hops.length cap] 99)) (Ae _);simp only [nblk_alloc] at ho0
 go_wp2
 go_loopg [3,4] x.hops.length (fun gk out i wr=>∃ k:Nat,gk+k=x.hops.length∧i=.int .i64 k∧OwnF intF 1 (w.heap.size+1) 3 wr out (ml.take k)∧Ext (w.alloc (.cells #[.int .i64 x.kind,.int .i64 x.ts,.int .i64 x.beta,.slice o x.hops.length cap] 99)) wr)
 case atStart=>exact⟨0,rfl,rfl,ho0,(Ab _).alloc _⟩
 case round=>
  obtain⟨k,hgk,rfl,hown,hx⟩:=hrel;clear ho0
  by_cases hlt:k<x.hops.length
  ·
   have hg':gk - 1+(k+1)=x.hops.length∧gk - 1<gk:=by omega
   have HG:=Ac hg';clear hg' hgk;obtain⟨b,off,rfl,hc⟩:=Ca (r.ext (hx0.t hx)) k hlt;have hkm:k<ml.length:=by rw [HLM.out];exact hlt
   have HS:=Ac (show ml.take k ++ [x.hops[k].asn]=ml.take (k+1) by rw [List.take_succ_eq_append_getElem hkm,HAT.out k hkm hlt]);have hln:(ml.take k).length≤k:=List.length_take_le _ _;clear hkm;have cf1:=blk4 (Aa hx HB0.out)
   go_wp2_with (at_builtin;refine app1 E intFlen intOne rfl _ _ rfl x.hops[k].asn rfl (hown.ext ((Ab _).alloc _)) rfl (by exact Au (intF x.hops[k].asn) (blk_new wr _)) (by omega) (by unfold maxLen;omega) (by have:=(hx.alloc (.cells #[.int .i64 x.hops[k].asn] 3)).size;simpa using this) ?_)
   intro v' w' ho' hg';have hx':=(hx.alloc (.cells #[.int .i64 x.hops[k].asn] 3)).app (e:=3) hg' hown (by simp);rw [HS.out] at ho';clear hg' hown
   go_wp2_with fail
   go_roundg (gk - 1)
   case measure=>exact HG.out.2
   case rel=>exact⟨k+1,HG.out.1,by go_num,ho',hx'⟩
  have HXS:=Ac (show ml.take k=ml by rw [List.take_of_length_le (by rw [HLM.out];omega)]);rw [HXS.out] at hown;have cf2:=blk4 (Aa hx HB0.out)
  go_wp2_with fail
  go_ret
  exact⟨_,rfl,hown.mono (Nat.le_succ _),(hx0.t hx)⟩
theorem i_ValidPart (t:Topo) (v1 v2:Value) (x:Part) (v:Value) (w:World) (ha:RdS ASd.rep w v1 t.ases) (hk:RdS Lnk.rep w v2 t.links) (r:RdS Hop.rep w v x.hops) :
  Calls Tryz.prog 158 #[.agg #[v1,v2],.agg #[.int .i64 x.kind,.int .i64 x.ts,.int .i64 x.beta,v]] w fun e w'=>e=.returned (.bool (validPart t x))∧Ext w w':=by
 obtain⟨o,cap,rfl,hsm⟩:=r.shape;obtain⟨hx0,HB0⟩:=ea2 w (.cells #[v1,v2] 27) (.cells #[.int .i64 x.kind,.int .i64 x.ts,.int .i64 x.beta,.slice o x.hops.length cap] 99);replace HB0:=Ac HB0
 go_enter Tryz.func158,Tryz.ntmps158
 have cf1:=blk2 HB0.out.1;have cf2:=blk4 HB0.out.2
 go_wp2_with fail
 refine(i_InRange _ _ _ _).mono ?_;rintro e _ ⟨rfl,rfl⟩
 cases bb:inR x.kind 1 4
 ·
  have HE:=Ac (validPart_1 (t:=t) (x:=x) bb)
  go_wp2_with fail
  go_ret
  exact⟨Ah HE.out.symm,hx0⟩
 have B1:=Ac bb;clear bb
 go_wp2_with fail
 refine(i_hopsOk t _ _ x.hops _ _ (ha.ext hx0) (r.ext hx0)).mono ?_;rintro e w2 ⟨rfl,hz2⟩
 cases bb:hopsOk t x.hops
 ·
  have HE:=Ac (validPart_2 (t:=t) (x:=x) bb)
  try clear cf1
  try clear cf2
  have cf3:=blk2 (Aa hz2 HB0.out.1);have cf4:=blk4 (Aa hz2 HB0.out.2)
  go_wp2_with fail
  go_ret
  exact⟨Ah HE.out.symm,(hx0.t hz2)⟩
 have B2:=Ac bb;clear bb
 try clear cf1
 try clear cf2
 have cf5:=blk2 (Aa hz2 HB0.out.1);have cf6:=blk4 (Aa hz2 HB0.out.2)
 go_wp2_with fail
 refine(i_InRange _ _ _ _).mono ?_;rintro e _ ⟨rfl,rfl⟩
 cases bb:inR x.ts 0 1000000
 ·
  have HE:=Ac (validPart_3 (t:=t) (x:=x) bb)
  go_wp2_with fail
  go_ret
  exact⟨Ah HE.out.symm,(hx0.t hz2)⟩
 have B3:=Ac bb;clear bb
 go_wp2_with fail
 refine(i_isResidue _ _).mono ?_;rintro e _ ⟨rfl,rfl⟩
 cases bb:isRes x.beta
 ·
  have HE:=Ac (validPart_4 (t:=t) (x:=x) bb)
  go_wp2_with fail
  go_ret
  exact⟨Ah HE.out.symm,(hx0.t hz2)⟩
 have B4:=Ac bb;clear bb
 have hlen:1≤x.hops.length:=by
  have h:=B2.out;unfold hopsOk at h;simp only [Bool.and_eq_true] at h;have:=Bk.1 h.1;omega
 go_wp2_with fail
 go_loopg [5] (x.hops.length - 1) (fun gk i wr=>∃ k:Nat,gk+k=x.hops.length - 1∧i=.int .i64 k∧Hid (allTo (joinAt t x) k=true)∧Ext w2 wr)
 case atStart=>exact⟨0,rfl,rfl,Ac rfl,Ab _⟩
 case round=>
  obtain⟨k,hgk,rfl,HK,hx⟩:=hrel
  by_cases hlt:(k:Int)<(x.hops.length:Int) - 1
  ·
   have HG:=Ac (show gk - 1+(k+1)=x.hops.length - 1∧gk - 1<gk by omega);clear hgk;have h1:k<x.hops.length:=by omega
   have h2:k+1<x.hops.length:=by omega
   have h3:k<x.hops.length - 1:=by omega
   have HJ:=Ac (joinAt_of (t:=t) h1 h2)
   try clear cf5
   try clear cf6
   have cf7:=blk2 (Aa (hz2.t hx) HB0.out.1);have cf8:=blk4 (Aa (hz2.t hx) HB0.out.2)
   go_wp2_with fail
   refine(i_PartEgress x _ (k:Int) _ (r.ext ((hx0.t hz2).t hx))).mono ?_;rintro e w5 ⟨rfl,hz5⟩;obtain⟨b,off,rfl,hc⟩:=Ca (r.ext (((hx0.t hz2).t hx).t hz5)) k h1;obtain⟨b2,off2,he2,hd⟩:=Ca (r.ext (((hx0.t hz2).t hx).t hz5)) (k+1) h2
   cases he2
   generalize he:partEg x (k:Int)=eg at *;have HEG:=Ac he;clear he;have h4:(k:Int)<(x.hops.length:Int):=by omega
   have h5:(k:Int)+1<(x.hops.length:Int):=by omega
   try clear cf7
   try clear cf8
   have cf9:=blk2 (Aa ((hz2.t hx).t hz5) HB0.out.1);have cf10:=blk4 (Aa ((hz2.t hx).t hz5) HB0.out.2)
   go_wp2_with fail
   refine Al (by kernel_rfl) (by kernel_rfl) ?_;have q0:=Br cf9;have q2:=Bm cf10;have q6:=Bv hc;have q11:=Bv hd
   repeat (first | go_big_quiet_step (((first | (go_at_call 43;exact Ai (i_RemoteEnd t _ _ x.hops[k].asn eg _ ((hk.ext (((hx0.t hz2).t hx).t hz5)).ext (ExtW.h _))))))) | quiet_step (((first | (go_at_call 43;exact Ai (i_RemoteEnd t _ _ x.hops[k].asn eg _ ((hk.ext (((hx0.t hz2).t hx).t hz5)).ext (ExtW.h _))))))))
   refine wpQuiet_nil ?_;intro w6 hw6;have hz6:=Bc hw6;clear hw6 q0 q2 q6 q11;generalize hR:remEnd t x.hops[k].asn eg=R at *;have HR:=Ac hR;clear hR
   cases b1:(eg == 0)
   ·
    cases b2:(R.1 == x.hops[k+1].asn)
    ·
     have b2':(R.1 != x.hops[k+1].asn)=true:=by simp only [bne,b2];rfl
     have HE:=Ac (validPart_5 (t:=t) h3 (show joinAt t x k=false by rw [HJ.out];simp only [bne,b1,b2,Bool.not_false,Bool.false_and,Bool.and_false]))
     try clear cf9
     try clear cf10
     have cf11:=blk2 (Aa (((hz2.t hx).t hz5).t hz6) HB0.out.1);have cf12:=blk4 (Aa (((hz2.t hx).t hz5).t hz6) HB0.out.2);have cf13:=Av hz6 hc;have cf14:=Av hz6 hd
     go_wp2_with fail
     go_ret
     exact⟨Ah HE.out.symm,((((hx0.t hz2).t hx).t hz5).t hz6)⟩
    have b2':(R.1 != x.hops[k+1].asn)=false:=by simp only [bne,b2];rfl
    try clear cf9
    try clear cf10
    have cf15:=blk2 (Aa (((hz2.t hx).t hz5).t hz6) HB0.out.1);have cf16:=blk4 (Aa (((hz2.t hx).t hz5).t hz6) HB0.out.2);have cf17:=Av hz6 hc;have cf18:=Av hz6 hd
    go_wp2_with fail
    refine(i_PartIngress x _ ((k:Int)+1) _ (r.ext ((((hx0.t hz2).t hx).t hz5).t hz6))).mono ?_;rintro e w7 ⟨rfl,hz7⟩
    cases b3:(R.2 == partIn x ((k:Int)+1))
    ·
     have b3':(R.2 != partIn x ((k:Int)+1))=true:=by simp only [bne,b3];rfl
     have HE:=Ac (validPart_5 (t:=t) h3 (show joinAt t x k=false by rw [HJ.out];simp only [bne,b1,b2,b3,Bool.not_false,Bool.and_false,Bool.true_and]))
     try clear cf15
     try clear cf16
     try clear cf17
     try clear cf18
     have cf19:=blk2 (Aa ((((hz2.t hx).t hz5).t hz6).t hz7) HB0.out.1);have cf20:=blk4 (Aa ((((hz2.t hx).t hz5).t hz6).t hz7) HB0.out.2);have cf21:=Av (hz6.t hz7) hc;have cf22:=Av (hz6.t hz7) hd
     go_wp2_with fail
     go_ret
     exact⟨Ah HE.out.symm,(((((hx0.t hz2).t hx).t hz5).t hz6).t hz7)⟩
    have b3':(R.2 != partIn x ((k:Int)+1))=false:=by simp only [bne,b3];rfl
    have HK2:=Ac (Ch HK.out (show joinAt t x k=true by rw [HJ.out];simp only [bne,b1,b2,b3];rfl))
    try clear cf15
    try clear cf16
    try clear cf17
    try clear cf18
    have cf23:=blk2 (Aa ((((hz2.t hx).t hz5).t hz6).t hz7) HB0.out.1);have cf24:=blk4 (Aa ((((hz2.t hx).t hz5).t hz6).t hz7) HB0.out.2);have cf25:=Av (hz6.t hz7) hc;have cf26:=Av (hz6.t hz7) hd
    go_wp2_with fail
    go_roundg (gk - 1)
    case measure=>exact HG.out.2
    case rel=>exact⟨k+1,HG.out.1,by go_num,HK2,(((hx.t hz5).t hz6).t hz7)⟩
   have HE:=Ac (validPart_5 (t:=t) h3 (show joinAt t x k=false by rw [HJ.out];simp only [bne,b1,Bool.not_true,Bool.false_and]))
   try clear cf9
   try clear cf10
   have cf27:=blk2 (Aa (((hz2.t hx).t hz5).t hz6) HB0.out.1);have cf28:=blk4 (Aa (((hz2.t hx).t hz5).t hz6) HB0.out.2);have cf29:=Av hz6 hc;have cf30:=Av hz6 hd
   go_wp2_with fail
   go_ret
   exact⟨Ah HE.out.symm,((((hx0.t hz2).t hx).t hz5).t hz6)⟩
  obtain rfl:k=x.hops.length - 1:=by omega
  have HE:=Ac (show validPart t x=true by unfold validPart;rw [B1.out,B2.out,B3.out,B4.out,HK.out];rfl);have h6:¬ (((x.hops.length - 1:Nat):Int)<(x.hops.length:Int) - 1):=by omega
  try clear cf5
  try clear cf6
  have cf31:=blk2 (Aa (hz2.t hx) HB0.out.1);have cf32:=blk4 (Aa (hz2.t hx) HB0.out.2)
  go_wp2_with fail
  go_ret
  exact⟨Ah HE.out.symm,((hx0.t hz2).t hx)⟩
theorem s_ValidPart (t:Topo) (v1 v2:Value) (x:Part) (v:Value) (w:World) (ha:RdS ASd.rep w v1 t.ases) (hk:RdS Lnk.rep w v2 t.links) (r:RdS Hop.rep w v x.hops) :
  Calls Tryz.prog 183 #[.agg #[v1,v2],.agg #[.int .i64 x.kind,.int .i64 x.ts,.int .i64 x.beta,v]] w fun e w'=>e=.returned (.bool (validPart t x))∧Ext w w':=by
 obtain⟨o,cap,rfl,hsm⟩:=r.shape;obtain⟨hx0,HB0⟩:=ea2 w (.cells #[v1,v2] 27) (.cells #[.int .i64 x.kind,.int .i64 x.ts,.int .i64 x.beta,.slice o x.hops.length cap] 99);replace HB0:=Ac HB0
 go_enter Tryz.func183,Tryz.ntmps183
 have cf1:=blk2 HB0.out.1;have cf2:=blk4 HB0.out.2
 go_wp2_with fail
 refine(s_l1In _ _ _ _).mono ?_;rintro e _ ⟨rfl,rfl⟩
 cases bb:inR (x.hops.length:Int) 1 8
 ·
  have HE:=Ac (validPart_6 (t:=t) (x:=x) bb)
  go_wp2_with fail
  go_ret
  exact⟨Ah HE.out.symm,hx0⟩
 have B2:=Ac bb;have hl8:x.hops.length≤8∧1≤x.hops.length:=by have:=Bk.1 bb;omega
 clear bb
 go_wp2_with fail
 refine(s_l1In _ _ _ _).mono ?_;rintro e _ ⟨rfl,rfl⟩
 cases bb:inR x.kind 1 4
 ·
  have HE:=Ac (validPart_1 (t:=t) (x:=x) bb)
  go_wp2_with fail
  go_ret
  exact⟨Ah HE.out.symm,hx0⟩
 have B1:=Ac bb;clear bb
 go_wp2_with fail
 refine(s_l1In _ _ _ _).mono ?_;rintro e _ ⟨rfl,rfl⟩
 cases bb:inR x.ts 0 1000000
 ·
  have HE:=Ac (validPart_3 (t:=t) (x:=x) bb)
  go_wp2_with fail
  go_ret
  exact⟨Ah HE.out.symm,hx0⟩
 have B3:=Ac bb;clear bb
 go_wp2_with fail
 refine(s_l3Ok _ _).mono ?_;rintro e _ ⟨rfl,rfl⟩
 cases bb:isRes x.beta
 ·
  have HE:=Ac (validPart_4 (t:=t) (x:=x) bb)
  go_wp2_with fail
  go_ret
  exact⟨Ah HE.out.symm,hx0⟩
 have B4:=Ac bb;clear bb
 go_wp2_with fail
 refine(s_l21Realms x _ _ (r.ext hx0) (by omega)).mono ?_;rintro e w5 ⟨u,rfl,oq,hz5⟩;obtain⟨og,cg,rfl,_⟩:=(Bo oq).shape;have hlm:(x.hops.map (·.asn)).length=x.hops.length:=List.length_map _;have HLM:=Ac hlm;have hcg:=(Bo oq).capLe;have hqr:=Bo oq;clear oq;rw [hlm] at hcg;generalize hml:x.hops.map (·.asn)=ml at *;have HML:=Ac hml;clear hml;rw [hlm] at hqr;rw [hlm];clear hlm
 try clear cf1
 try clear cf2
 have cf3:=blk2 (Aa hz5 HB0.out.1);have cf4:=blk4 (Aa hz5 HB0.out.2)
 go_wp2_with fail
 go_loopg [6] x.hops.length (fun gk i wr=>∃ k:Nat,gk+k=x.hops.length∧i=.int .i64 k∧Hid (allTo (hopFresh t x.hops) k=true)∧Hid (allTo (joinAt t x) (k - 1)=true)∧Ext w5 wr)
 case atStart=>exact⟨0,rfl,rfl,Ac rfl,Ac rfl,Ab _⟩
 case round=>
  obtain⟨k,hgk,rfl,HK,HL,hx⟩:=hrel
  by_cases hlt:k<x.hops.length
  ·
   have HG:=Ac (show gk - 1+(k+1)=x.hops.length∧gk - 1<gk by omega);clear hgk;have HAT:=Ac (Bz hlt);obtain⟨b,off,rfl,hc⟩:=Ca (r.ext ((hx0.t hz5).t hx)) k hlt;have hkm:k<ml.length:=by rw [HLM.out];exact hlt
   obtain⟨bq,oq,rfl,hq⟩:=ints_at (hqr.ext hx) k hkm;have hgm:ml[k]=x.hops[k].asn:=by simp only [← HML.out,List.getElem_map]
   rw [hgm] at hq;clear hgm;have hqk:=RdS.upto hqr k (by rw [HLM.out];omega);have hkc:k≤cg:=by omega
   have h4:(k:Int)<(x.hops.length:Int):=by omega
   have h6:(k:Int)≤(cg:Int):=by omega
   cases b1:validHop x.hops[k]
   ·
    try clear cf3
    try clear cf4
    have cf5:=blk2 (Aa (hz5.t hx) HB0.out.1);have cf6:=blk4 (Aa (hz5.t hx) HB0.out.2)
    go_wp2_with fail
    refine Al (by kernel_rfl) (by kernel_rfl) ?_;have q0:=Br cf5;have q2:=Bm cf6;have q6:=Bv hc;have q11:=Bd (hq)
    repeat (first | go_big_quiet_step (((first | (go_at_call 200;exact Ai (s_ValidHop x.hops[k] _))))) | quiet_step (((first | (go_at_call 200;exact Ai (s_ValidHop x.hops[k] _))))))
    refine wpQuiet_nil ?_;intro w6 hw6;have hz6:=Bc hw6;clear hw6 q0 q2 q6 q11;have HE:=Ac (validPart_7 (t:=t) hlt (show hopFresh t x.hops k=false by unfold hopFresh;rw [HAT.out,HML.out];simp only [b1,Bool.false_and]))
    try clear cf5
    try clear cf6
    have cf7:=blk2 (Aa ((hz5.t hx).t hz6) HB0.out.1);have cf8:=blk4 (Aa ((hz5.t hx).t hz6) HB0.out.2);have cf9:=Av hz6 hc;have cf10:=By hz6 hq
    go_wp2_with fail
    go_ret
    exact⟨Ah HE.out.symm,(((hx0.t hz5).t hx).t hz6)⟩
   cases b2:isAs t x.hops[k].asn
   ·
    try clear cf3
    try clear cf4
    have cf11:=blk2 (Aa (hz5.t hx) HB0.out.1);have cf12:=blk4 (Aa (hz5.t hx) HB0.out.2)
    go_wp2_with fail
    refine Al (by kernel_rfl) (by kernel_rfl) ?_;have q0:=Br cf11;have q2:=Bm cf12;have q6:=Bv hc;have q11:=Bd (hq)
    repeat (first | go_big_quiet_step (((first | (go_at_call 200;exact Ai (s_ValidHop x.hops[k] _)) | (go_at_call 118;exact Ai (s_l5Realm t _ _ x.hops[k].asn _ ((ha.ext ((hx0.t hz5).t hx)).ext (ExtW.h _))))))) | quiet_step (((first | (go_at_call 200;exact Ai (s_ValidHop x.hops[k] _)) | (go_at_call 118;exact Ai (s_l5Realm t _ _ x.hops[k].asn _ ((ha.ext ((hx0.t hz5).t hx)).ext (ExtW.h _))))))))
    refine wpQuiet_nil ?_;intro w7 hw7;have hz7:=Bc hw7;clear hw7 q0 q2 q6 q11;have HE:=Ac (validPart_7 (t:=t) hlt (show hopFresh t x.hops k=false by unfold hopFresh;rw [HAT.out,HML.out];simp only [b1,b2,Bool.false_and,Bool.and_false]))
    try clear cf11
    try clear cf12
    have cf13:=blk2 (Aa ((hz5.t hx).t hz7) HB0.out.1);have cf14:=blk4 (Aa ((hz5.t hx).t hz7) HB0.out.2);have cf15:=Av hz7 hc;have cf16:=By hz7 hq
    go_wp2_with fail
    go_ret
    exact⟨Ah HE.out.symm,(((hx0.t hz5).t hx).t hz7)⟩
   cases b3:hasI (ml.take k) x.hops[k].asn
   ·
    have HK2:=Ac (Ch HK.out (show hopFresh t x.hops k=true by unfold hopFresh;rw [HAT.out,HML.out,b1,b2,b3];rfl))
    try clear cf3
    try clear cf4
    have cf17:=blk2 (Aa (hz5.t hx) HB0.out.1);have cf18:=blk4 (Aa (hz5.t hx) HB0.out.2)
    go_wp2_with fail
    refine Al (by kernel_rfl) (by kernel_rfl) ?_;have q0:=Br cf17;have q2:=Bm cf18;have q6:=Bv hc;have q11:=Bd (hq)
    repeat (first | go_big_quiet_step (((first | (go_at_call 200;exact Ai (s_ValidHop x.hops[k] _)) | (go_at_call 118;exact Ai (s_l5Realm t _ _ x.hops[k].asn _ ((ha.ext ((hx0.t hz5).t hx)).ext (ExtW.h _)))) | (go_at_call 56;exact Am (s_l9Has (ml.take k) _ x.hops[k].asn _ ((hqk.ext hx).ext (ExtW.h _))))))) | quiet_step (((first | (go_at_call 200;exact Ai (s_ValidHop x.hops[k] _)) | (go_at_call 118;exact Ai (s_l5Realm t _ _ x.hops[k].asn _ ((ha.ext ((hx0.t hz5).t hx)).ext (ExtW.h _)))) | (go_at_call 56;exact Am (s_l9Has (ml.take k) _ x.hops[k].asn _ ((hqk.ext hx).ext (ExtW.h _))))))))
    refine wpQuiet_nil ?_;intro w8 hw8;have hz8:=Bc hw8;clear hw8 q0 q2 q6 q11
    rcases Nat.eq_zero_or_pos k with rfl | hk0
    ·
     try clear cf17
     try clear cf18
     have cf19:=blk2 (Aa ((hz5.t hx).t hz8) HB0.out.1);have cf20:=blk4 (Aa ((hz5.t hx).t hz8) HB0.out.2);have cf21:=Av hz8 hc;have cf22:=By hz8 hq
     go_wp2_with fail
     go_roundg (gk - 1)
     case measure=>exact HG.out.2
     case rel=>exact⟨0+1,HG.out.1,by go_num,HK2,Ac rfl,(hx.t hz8)⟩
    obtain⟨j,hj⟩:∃ j,k=j+1:=⟨k - 1,by omega⟩
    have hjl:j<x.hops.length:=by omega
    have hjm:j<ml.length:=by rw [HLM.out];exact hjl
    have h1:j+1<x.hops.length:=by omega
    have h3:Hid (j<x.hops.length - 1):=Ac (by omega);have hk1:(0:Int)<(k:Int):=by omega
    have HJ2:Hid (joinAt t x j=((partEg x j != 0) && ((remEnd t x.hops[j].asn (partEg x j)).1 == x.hops[k].asn) && ((remEnd t x.hops[j].asn (partEg x j)).2 == partIn x (k:Int)))):=by
     refine Ac ?_;rw [joinAt_of hjl h1];have e1:(k:Int)=(j:Int)+1:=by omega
     rw [e1];simp only [hj]
    have hw1:IntKind.i64.wrap ((k:Int) - 1)=(j:Int):=by rw [IntWalk.i64_in _ (by omega)];omega
    have hw2:(k:Int) - 1=(j:Int):=by omega
    have HJJ:=Ac hj;obtain⟨bj,oj,ej,hqj⟩:=ints_at (hqr.ext (hx.t hz8)) j hjm;have hgm:ml[j]=x.hops[j].asn:=by simp only [← HML.out,List.getElem_map]
    rw [hgm] at hqj
    cases ej
    have h7:(j:Int)<(x.hops.length:Int):=by omega
    have h8:(0:Int)≤(j:Int):=by omega
    have HW2:=Ac hw2;clear hw2 hj hgm;generalize he:partEg x (j:Int)=eg at *;have HEG:=Ac he;clear he
    try clear cf17
    try clear cf18
    have cf23:=blk2 (Aa ((hz5.t hx).t hz8) HB0.out.1);have cf24:=blk4 (Aa ((hz5.t hx).t hz8) HB0.out.2);have cf25:=Av hz8 hc;have cf26:=By hz8 hq
    go_wp2_with fail
    refine Al (by kernel_rfl) (by kernel_rfl) ?_;have q0:=Br cf23;have q2:=Bm cf24;have q6:=Bv cf25;have q11:=Bd (cf26);have q12:=Bd (hqj)
    repeat (first | go_big_quiet_step (((first | (go_at_call 94;exact Ai (HEG.out ▸ s_PartEgress x _ (j:Int) _ ((r.ext (((hx0.t hz5).t hx).t hz8)).ext (ExtW.h _)))) | (go_at_call 50;exact Ai (s_RemoteEnd t _ _ x.hops[j].asn eg _ ((hk.ext (((hx0.t hz5).t hx).t hz8)).ext (ExtW.h _))))))) | quiet_step (((first | (go_at_call 94;exact Ai (HEG.out ▸ s_PartEgress x _ (j:Int) _ ((r.ext (((hx0.t hz5).t hx).t hz8)).ext (ExtW.h _)))) | (go_at_call 50;exact Ai (s_RemoteEnd t _ _ x.hops[j].asn eg _ ((hk.ext (((hx0.t hz5).t hx).t hz8)).ext (ExtW.h _))))))))
    refine wpQuiet_nil ?_;intro w9 hw9;have hz9:=Bc hw9;clear hw9 q0 q2 q6 q11 q12;clear hw1;have hw2:=HW2.out;generalize hR:remEnd t x.hops[j].asn eg=R at *;have HR:=Ac hR;clear hR
    try clear cf23
    try clear cf24
    try clear cf25
    try clear cf26
    have cf27:=blk2 (Aa (((hz5.t hx).t hz8).t hz9) HB0.out.1);have cf28:=blk4 (Aa (((hz5.t hx).t hz8).t hz9) HB0.out.2);have cf29:=Av (hz8.t hz9) hc;have cf30:=By (hz8.t hz9) hq;have cf31:=By hz9 hqj
    go_wp2_with fail
    refine(HEG.out ▸ s_PartEgress x _ (j:Int) _ (r.ext ((((hx0.t hz5).t hx).t hz8).t hz9))).mono ?_;rintro e w10 ⟨rfl,hz10⟩;clear hw2
    cases b4:(eg == 0)
    ·
     cases b5:(R.1 == x.hops[k].asn)
     ·
      have b5':(R.1 != x.hops[k].asn)=true:=by simp only [bne,b5];rfl
      have HE:=Ac (validPart_5 (t:=t) h3.out (show joinAt t x j=false by rw [HJ2.out];simp only [bne,b4,b5,Bool.not_false,Bool.false_and,Bool.and_false]))
      try clear cf27
      try clear cf28
      try clear cf29
      try clear cf30
      try clear cf31
      have cf32:=blk2 (Aa ((((hz5.t hx).t hz8).t hz9).t hz10) HB0.out.1);have cf33:=blk4 (Aa ((((hz5.t hx).t hz8).t hz9).t hz10) HB0.out.2);have cf34:=Av ((hz8.t hz9).t hz10) hc;have cf35:=By ((hz8.t hz9).t hz10) hq;have cf36:=By (hz9.t hz10) hqj
      go_wp2_with fail
      go_ret
      exact⟨Ah HE.out.symm,(((((hx0.t hz5).t hx).t hz8).t hz9).t hz10)⟩
     have b5':(R.1 != x.hops[k].asn)=false:=by simp only [bne,b5];rfl
     try clear cf27
     try clear cf28
     try clear cf29
     try clear cf30
     try clear cf31
     have cf37:=blk2 (Aa ((((hz5.t hx).t hz8).t hz9).t hz10) HB0.out.1);have cf38:=blk4 (Aa ((((hz5.t hx).t hz8).t hz9).t hz10) HB0.out.2);have cf39:=Av ((hz8.t hz9).t hz10) hc;have cf40:=By ((hz8.t hz9).t hz10) hq;have cf41:=By (hz9.t hz10) hqj
     go_wp2_with fail
     refine(s_PartIngress x _ (k:Int) _ (r.ext (((((hx0.t hz5).t hx).t hz8).t hz9).t hz10))).mono ?_;rintro e w11 ⟨rfl,hz11⟩
     cases b6:(R.2 == partIn x (k:Int))
     ·
      have b6':(R.2 != partIn x (k:Int))=true:=by simp only [bne,b6];rfl
      have HE:=Ac (validPart_5 (t:=t) h3.out (show joinAt t x j=false by rw [HJ2.out];simp only [bne,b4,b5,b6,Bool.not_false,Bool.and_false,Bool.true_and]))
      try clear cf37
      try clear cf38
      try clear cf39
      try clear cf40
      try clear cf41
      have cf42:=blk2 (Aa (((((hz5.t hx).t hz8).t hz9).t hz10).t hz11) HB0.out.1);have cf43:=blk4 (Aa (((((hz5.t hx).t hz8).t hz9).t hz10).t hz11) HB0.out.2);have cf44:=Av (((hz8.t hz9).t hz10).t hz11) hc;have cf45:=By (((hz8.t hz9).t hz10).t hz11) hq;have cf46:=By ((hz9.t hz10).t hz11) hqj
      go_wp2_with fail
      go_ret
      exact⟨Ah HE.out.symm,((((((hx0.t hz5).t hx).t hz8).t hz9).t hz10).t hz11)⟩
     have b6':(R.2 != partIn x (k:Int))=false:=by simp only [bne,b6];rfl
     have HL2:Hid (allTo (joinAt t x) (k+1 - 1)=true):=Ac (by have h:=HL.out;rw [HJJ.out] at h ⊢;exact Ch h (show joinAt t x j=true by rw [HJ2.out];simp only [bne,b4,b5,b6];rfl))
     try clear cf37
     try clear cf38
     try clear cf39
     try clear cf40
     try clear cf41
     have cf47:=blk2 (Aa (((((hz5.t hx).t hz8).t hz9).t hz10).t hz11) HB0.out.1);have cf48:=blk4 (Aa (((((hz5.t hx).t hz8).t hz9).t hz10).t hz11) HB0.out.2);have cf49:=Av (((hz8.t hz9).t hz10).t hz11) hc;have cf50:=By (((hz8.t hz9).t hz10).t hz11) hq;have cf51:=By ((hz9.t hz10).t hz11) hqj
     go_wp2_with fail
     go_roundg (gk - 1)
     case measure=>exact HG.out.2
     case rel=>exact⟨k+1,HG.out.1,by go_num,HK2,HL2,((((hx.t hz8).t hz9).t hz10).t hz11)⟩
    have HE:=Ac (validPart_5 (t:=t) h3.out (show joinAt t x j=false by rw [HJ2.out];simp only [bne,b4,Bool.not_true,Bool.false_and]))
    try clear cf27
    try clear cf28
    try clear cf29
    try clear cf30
    try clear cf31
    have cf52:=blk2 (Aa ((((hz5.t hx).t hz8).t hz9).t hz10) HB0.out.1);have cf53:=blk4 (Aa ((((hz5.t hx).t hz8).t hz9).t hz10) HB0.out.2);have cf54:=Av ((hz8.t hz9).t hz10) hc;have cf55:=By ((hz8.t hz9).t hz10) hq;have cf56:=By (hz9.t hz10) hqj
    go_wp2_with fail
    go_ret
    exact⟨Ah HE.out.symm,(((((hx0.t hz5).t hx).t hz8).t hz9).t hz10)⟩
   try clear cf3
   try clear cf4
   have cf57:=blk2 (Aa (hz5.t hx) HB0.out.1);have cf58:=blk4 (Aa (hz5.t hx) HB0.out.2)
   go_wp2_with fail
   refine Al (by kernel_rfl) (by kernel_rfl) ?_;have q0:=Br cf57;have q2:=Bm cf58;have q6:=Bv hc;have q11:=Bd (hq)
   repeat (first | go_big_quiet_step (((first | (go_at_call 200;exact Ai (s_ValidHop x.hops[k] _)) | (go_at_call 118;exact Ai (s_l5Realm t _ _ x.hops[k].asn _ ((ha.ext ((hx0.t hz5).t hx)).ext (ExtW.h _)))) | (go_at_call 56;exact Am (s_l9Has (ml.take k) _ x.hops[k].asn _ ((hqk.ext hx).ext (ExtW.h _))))))) | quiet_step (((first | (go_at_call 200;exact Ai (s_ValidHop x.hops[k] _)) | (go_at_call 118;exact Ai (s_l5Realm t _ _ x.hops[k].asn _ ((ha.ext ((hx0.t hz5).t hx)).ext (ExtW.h _)))) | (go_at_call 56;exact Am (s_l9Has (ml.take k) _ x.hops[k].asn _ ((hqk.ext hx).ext (ExtW.h _))))))))
   refine wpQuiet_nil ?_;intro w12 hw12;have hz12:=Bc hw12;clear hw12 q0 q2 q6 q11;have HE:=Ac (validPart_7 (t:=t) hlt (show hopFresh t x.hops k=false by unfold hopFresh;rw [HAT.out,HML.out];simp only [b1,b2,b3,Bool.not_true,Bool.and_false,Bool.true_and]))
   try clear cf57
   try clear cf58
   have cf59:=blk2 (Aa ((hz5.t hx).t hz12) HB0.out.1);have cf60:=blk4 (Aa ((hz5.t hx).t hz12) HB0.out.2);have cf61:=Av hz12 hc;have cf62:=By hz12 hq
   go_wp2_with fail
   go_ret
   exact⟨Ah HE.out.symm,(((hx0.t hz5).t hx).t hz12)⟩
  obtain rfl:k=x.hops.length:=by omega
  have HE:=Ac (show validPart t x=true by unfold validPart hopsOk;rw [B1.out,B2.out,B3.out,B4.out,HK.out,HL.out];rfl)
  try clear cf3
  try clear cf4
  have cf63:=blk2 (Aa (hz5.t hx) HB0.out.1);have cf64:=blk4 (Aa (hz5.t hx) HB0.out.2)
  go_wp2_with fail
  go_ret
  exact⟨Ah HE.out.symm,((hx0.t hz5).t hx)⟩
theorem least_snoc {l:List Hop} {k:Nat} (hk:k<l.length):leastExp (l.take (k+1))=if k=0∨l[k].exp<leastExp (l.take k) then l[k].exp else leastExp (l.take k):=by
 cases l with
 | nil => simp at hk
 | cons x l =>
  cases k with
  | zero => simp [leastExp]
  | succ k =>
   have hk':k<l.length:=by simpa using hk
   simp only [List.take_succ_cons,leastExp,List.getElem_cons_succ];rw [List.take_succ_eq_append_getElem hk',List.foldl_append]
   simp
theorem i_leastExpiry (l:List Hop) (v:Value) (w:World) (hv:RdS Hop.rep w v l) :
  Calls Tryz.prog 71 #[v] w fun e w'=>e=.returned (.int .i64 (leastExp l))∧Ext w w':=by
 obtain⟨o,cap,rfl,hsm⟩:=hv.shape
 go_enter Tryz.func71,Tryz.ntmps71
 go_wp2
 go_loopg [3,8] l.length (fun gk n i wr=>∃ k:Nat,gk+k=l.length∧i=.int .i64 k∧n=.int .i64 (leastExp (l.take k))∧Ext w wr)
 case atStart=>exact⟨0,rfl,rfl,rfl,Ab _⟩
 case round=>
  obtain⟨k,hgk,rfl,rfl,hx⟩:=hrel
  by_cases hlt:k<l.length
  ·
   have HG:=Ac (show gk - 1+(k+1)=l.length∧gk - 1<gk by omega);clear hgk;have HS:=Ac (least_snoc hlt);obtain⟨b,off,rfl,hc⟩:=Ca (hv.ext hx) k hlt;generalize leastExp (l.take k)=m at *
   by_cases h0:k=0
   ·
    have h1:((k:Int) == 0)=true:=by rw [h0];rfl
    have HE:=Ac (HS.out.trans (if_pos (.inl h0)));clear h0
    go_wp2
    go_roundg (gk - 1)
    case measure=>exact HG.out.2
    case rel=>exact⟨k+1,HG.out.1,by go_num,by rw [HE.out],hx.alloc _⟩
   have h1:((k:Int) == 0)=false:=by rw [beq_eq_false_iff_ne];omega
   by_cases h2:l[k].exp<m
   ·
    have HE:=Ac (HS.out.trans (if_pos (.inr h2)));clear h0
    go_wp2
    go_roundg (gk - 1)
    case measure=>exact HG.out.2
    case rel=>exact⟨k+1,HG.out.1,by go_num,by rw [HE.out],hx.alloc _⟩
   have HE:=Ac (HS.out.trans (if_neg (show ¬ (k=0∨l[k].exp<m) by omega)));clear h0
   go_wp2
   go_roundg (gk - 1)
   case measure=>exact HG.out.2
   case rel=>exact⟨k+1,HG.out.1,by go_num,by rw [HE.out],hx.alloc _⟩
  have HE:=Ac (show leastExp (l.take k)=leastExp l by rw [List.take_of_length_le (by omega)]);generalize leastExp (l.take k)=m at *
  go_wp2_with fail
  go_ret
  exact⟨ret_int HE.out,hx⟩
end
end Go.Proofs.YteodlcpeoaggbaaGreat
