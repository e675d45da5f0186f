/- What these laws need: FnOld: Contracts of well-formed segments, their kinds, and valid and usable ones, program and reference. Contracts of the kinds of segments, and of valid and usable ones, program and reference. Contracts of valid and usable segments, of expiries and of codes struck out, program and reference. -/
import Derived.Test.YteodlcpeoaggbaaGreatKV30
namespace Go.Proofs.YteodlcpeoaggbaaGreat
section
open Go.ChangeShapes Go.WideShapes Go.ChangeAt Go.RowKit Go.Deep
set_option maxRecDepth 100000
set_option maxHeartbeats 8000000
def wfJoin (t:Topo) (l:List Hop) (i:Nat):Bool:=!(((hopAt l i).eg == 0) && decide (i+1<l.length)) && (decide (i=0) || (((remEnd t (hopAt l (i - 1)).asn (hopAt l (i - 1)).eg).1 == (hopAt l i).asn) && ((remEnd t (hopAt l (i - 1)).asn (hopAt l (i - 1)).eg).2 == (hopAt l i).ing)))
def wfSeg (t:Topo) (s:Seg):Bool:=hopsOk t s.hops && ((hopAt s.hops 0).ing == 0) && allTo (wfJoin t s.hops) s.hops.length
theorem wf_len' {t:Topo} {l:List Hop} (h:hopsOk t l=true):1≤l.length∧l.length≤8:=by
 unfold hopsOk at h;simp only [Bool.and_eq_true] at h;have:=Bk.1 h.1;omega
theorem wf_no1 {t:Topo} {s:Seg} (h:hopsOk t s.hops=false):wfSeg t s=false:=by unfold wfSeg;rw [h];rfl
theorem wf_no2 {t:Topo} {s:Seg} (h0:0<s.hops.length) (h:(s.hops[0].ing == 0)=false):wfSeg t s=false:=by unfold wfSeg;rw [Bz h0,h];simp
theorem wf_no3 {t:Topo} {s:Seg} {k:Nat} (hk:k<s.hops.length) (h:wfJoin t s.hops k=false):wfSeg t s=false:=by unfold wfSeg;rw [allTo_no hk h];simp
theorem wf_yes {t:Topo} {s:Seg} (h1:hopsOk t s.hops=true) (h0:0<s.hops.length) (h2:(s.hops[0].ing == 0)=true) (h3:allTo (wfJoin t s.hops) s.hops.length=true):wfSeg t s=true:=by unfold wfSeg;rw [h1,Bz h0,h2,h3];rfl
theorem join_no1 {t:Topo} {l:List Hop} {k:Nat} (hk:k<l.length) (h1:(l[k].eg == 0)=true) (h2:k+1<l.length):wfJoin t l k=false:=by unfold wfJoin;rw [Bz hk,h1,decide_eq_true h2];rfl
theorem join_zero {t:Topo} {l:List Hop} (hk:0<l.length) (h:(l[0].eg == 0)=false∨¬ 0+1<l.length):wfJoin t l 0=true:=by
 unfold wfJoin;rw [Bz hk]
 rcases h with h | h
 ·
  rw [h];rfl
 rw [decide_eq_false h];simp
theorem join_at {t:Topo} {l:List Hop} {k:Nat} (hk:k+1<l.length) (h:(l[k+1].eg == 0)=false∨¬ k+1+1<l.length) :
  wfJoin t l (k+1)=(((remEnd t l[k].asn l[k].eg).1 == l[k+1].asn) && ((remEnd t l[k].asn l[k].eg).2 == l[k+1].ing)):=by
 unfold wfJoin;rw [Bz hk,Nat.add_sub_cancel,Bz (show k<l.length by omega)]
 rcases h with h | h
 ·
  rw [h];simp
 rw [decide_eq_false h];simp
theorem ok_no1 {t:Topo} {l:List Hop} (h:inR (l.length:Int) 1 8=false):hopsOk t l=false:=by unfold hopsOk;rw [h];rfl
theorem ok_no2 {t:Topo} {l:List Hop} {k:Nat} (hk:k<l.length) (h:hopFresh t l k=false):hopsOk t l=false:=by unfold hopsOk;rw [allTo_no hk h];simp
theorem ok_yes {t:Topo} {l:List Hop} (h:inR (l.length:Int) 1 8=true) (h2:allTo (hopFresh t l) l.length=true):hopsOk t l=true:=by unfold hopsOk;rw [h,h2];rfl
theorem fresh_at {t:Topo} {l:List Hop} {k:Nat} (hk:k<l.length):hopFresh t l k=(validHop l[k] && isAs t l[k].asn && !(hasI ((l.map (·.asn)).take k) l[k].asn)):=by unfold hopFresh;rw [Bz hk]
theorem s_WellFormed (t:Topo) (v1 v2:Value) (s:Seg) (v:Value)  (w:World) (ha:RdS ASd.rep w v1 t.ases) (hk:RdS Lnk.rep w v2 t.links) (r:RdS Hop.rep w v s.hops) (hl:s.hops.length≤1048576) :
  Calls Tryz.prog 194 #[.agg #[v1,v2],.agg #[.int .i64 s.ts,.int .i64 s.beta,v]] w fun e w'=>e=.returned (.bool (wfSeg t s))∧Ext w w':=by
 obtain⟨o,cap,rfl,hsm⟩:=r.shape;obtain⟨hx0,HB0⟩:=ea2 w (.cells #[v1,v2] 27) (.cells #[.int .i64 s.ts,.int .i64 s.beta,.slice o s.hops.length cap] 116);replace HB0:=Ac HB0
 go_enter Tryz.func194,Tryz.ntmps194
 obtain⟨W0,hW0⟩:∃ W0:World,W0=((w.alloc (.cells #[v1,v2] 27)).alloc (.cells #[.int .i64 s.ts,.int .i64 s.beta,.slice o s.hops.length cap] 116)):=⟨_,rfl⟩
 rw [← hW0] at hx0 HB0;have cf1:=blk2 HB0.out.1;have cf2:=blk3 HB0.out.2
 go_wp2_with fail
 rw [← hW0];clear hW0;refine(s_l1In _ _ _ _).mono ?_;rintro e _ ⟨rfl,rfl⟩
 cases bb:inR (s.hops.length:Int) 1 8
 ·
  have HE:=Ac (wf_no1 (s:=s) (ok_no1 (t:=t) bb))
  go_wp2_with fail
  go_ret
  exact⟨Ah HE.out.symm,hx0⟩
 have B1:=Ac bb;obtain⟨hl1,hl8⟩:=Bk.1 bb;clear bb;have h0:0<s.hops.length:=by omega
 obtain⟨b,off,rfl,hc0⟩:=Ca (r.ext hx0) 0 h0;have h00:(0:Int)<(s.hops.length:Int):=by omega
 cases b2:(s.hops[0].ing == 0)
 ·
  have b2':(s.hops[0].ing != 0)=true:=by simp only [bne,b2];rfl
  have HE:=Ac (wf_no2 (t:=t) h0 b2)
  go_wp2_with fail
  go_ret
  exact⟨Ah HE.out.symm,hx0⟩
 have b2':(s.hops[0].ing != 0)=false:=by simp only [bne,b2];rfl
 have B2:=Ac b2;clear b2
 go_wp2_with fail
 refine(s_SegmentASes s _ _ (r.ext hx0) hl).mono ?_;rintro e w1 ⟨vl,rfl,ol,hz1⟩
 obtain⟨li,hli⟩:∃ li,li=s.hops.map (·.asn):=⟨_,rfl⟩
 rw [← hli] at ol;have hll:li.length=s.hops.length:=by rw [hli];simp
 have HLI:=Ac hli;clear hli;obtain⟨oa,ca,rfl,_⟩:=(Bo ol).shape;have hca:=(Bo ol).capLe;have rl:=Bo ol;clear ol;have HLL:=Ac hll;clear hll
 try clear cf1
 try clear cf2
 have cf3:=blk2 (Aa hz1 HB0.out.1);have cf4:=blk3 (Aa hz1 HB0.out.2);have cf5:=Av hz1 hc0
 go_wp2_with fail
 clear b2' hc0
 go_loopg [6] s.hops.length (fun gk i wr=>∃ k:Nat,gk+k=s.hops.length∧i=.int .i64 k∧Hid (allTo (hopFresh t s.hops) k=true)∧Hid (allTo (wfJoin t s.hops) k=true)∧Ext w1 wr)
 case atStart=>exact⟨0,by omega,rfl,Ac rfl,Ac rfl,Ab _⟩
 case round=>
  obtain⟨k,hgk,rfl,HF,HK,hx⟩:=hrel;have HGK:=Ac hgk;clear hgk;have hkl:k≤s.hops.length:=by have h1:=HGK.out;omega
  by_cases hlt:k<s.hops.length
  ·
   obtain⟨b',off',hbo,hc⟩:=Ca (r.ext ((hx0.t hz1).t hx)) k hlt
   cases hbo
   have h4:(k:Int)<(s.hops.length:Int):=by omega
   have hkli:k≤li.length:=by rw [HLL.out];omega
   have hkca:k≤ca:=Ad hkli hca
   try clear cf3
   try clear cf4
   try clear cf5
   have cf6:=blk2 (Aa (hz1.t hx) HB0.out.1);have cf7:=blk3 (Aa (hz1.t hx) HB0.out.2)
   go_upto_region 8 with (fail)
   try clear cf6
   try clear cf7
   clear hc;obtain⟨hx1,HB1⟩:=ea1 wr (.cells #[.int .i64 s.hops[k].asn,.int .i64 s.hops[k].ing,.int .i64 s.hops[k].eg,.int .i64 s.hops[k].exp,.int .i64 s.hops[k].mac] 103);replace HB1:=Ac HB1
   obtain⟨wa,hwa⟩:∃ wa:World,wa=wr.alloc (.cells #[.int .i64 s.hops[k].asn,.int .i64 s.hops[k].ing,.int .i64 s.hops[k].eg,.int .i64 s.hops[k].exp,.int .i64 s.hops[k].mac] 103):=⟨_,rfl⟩
   rw [← hwa];rw [← hwa] at hx1 HB1;clear hwa;have HFA:=Ac (fresh_at (t:=t) hlt);rw [← HLI.out] at HFA
   cases d1:validHop s.hops[k]
   ·
    have cf8:=blk2 (Aa ((hz1.t hx).t hx1) HB0.out.1);have cf9:=blk3 (Aa ((hz1.t hx).t hx1) HB0.out.2);have cf10:=blk5 HB1.out
    go_wp2_with fail
    refine Al (by kernel_rfl) (by kernel_rfl) ?_;have q0:=Br cf8;have q2:=ExtW.c3 cf9;have q5:=Bv cf10
    repeat (first | go_big_quiet_step (((first | (go_at_call 200;exact Ai (s_ValidHop s.hops[k] _))))) | quiet_step (((first | (go_at_call 200;exact Ai (s_ValidHop s.hops[k] _))))))
    refine wpQuiet_nil ?_;intro w2 hw2;have hz2:=Bc hw2;clear hw2 q0 q2 q5;have HE:=Ac (wf_no1 (s:=s) (ok_no2 (t:=t) hlt (by rw [HFA.out];simp [d1])))
    try clear cf8
    try clear cf9
    try clear cf10
    have cf11:=blk2 (Aa (((hz1.t hx).t hx1).t hz2) HB0.out.1);have cf12:=blk3 (Aa (((hz1.t hx).t hx1).t hz2) HB0.out.2);have cf13:=blk5 (Aa hz2 HB1.out)
    go_wp2_with fail
    go_ret
    exact⟨Ah HE.out.symm,((((hx0.t hz1).t hx).t hx1).t hz2)⟩
   cases d2:isAs t s.hops[k].asn
   ·
    have cf14:=blk2 (Aa ((hz1.t hx).t hx1) HB0.out.1);have cf15:=blk3 (Aa ((hz1.t hx).t hx1) HB0.out.2);have cf16:=blk5 HB1.out
    go_wp2_with fail
    refine Al (by kernel_rfl) (by kernel_rfl) ?_;have q0:=Br cf14;have q2:=ExtW.c3 cf15;have q5:=Bv cf16
    repeat (first | go_big_quiet_step (((first | (go_at_call 200;exact Ai (s_ValidHop s.hops[k] _)) | (go_at_call 118;exact Ai (s_l5Realm t _ _ s.hops[k].asn _ ((ha.ext (((hx0.t hz1).t hx).t hx1)).ext (ExtW.h _))))))) | quiet_step (((first | (go_at_call 200;exact Ai (s_ValidHop s.hops[k] _)) | (go_at_call 118;exact Ai (s_l5Realm t _ _ s.hops[k].asn _ ((ha.ext (((hx0.t hz1).t hx).t hx1)).ext (ExtW.h _))))))))
    refine wpQuiet_nil ?_;intro w3 hw3;have hz3:=Bc hw3;clear hw3 q0 q2 q5;have HE:=Ac (wf_no1 (s:=s) (ok_no2 (t:=t) hlt (by rw [HFA.out];simp [d1,d2])))
    try clear cf14
    try clear cf15
    try clear cf16
    have cf17:=blk2 (Aa (((hz1.t hx).t hx1).t hz3) HB0.out.1);have cf18:=blk3 (Aa (((hz1.t hx).t hx1).t hz3) HB0.out.2);have cf19:=blk5 (Aa hz3 HB1.out)
    go_wp2_with fail
    go_ret
    exact⟨Ah HE.out.symm,((((hx0.t hz1).t hx).t hx1).t hz3)⟩
   cases d3:hasI (li.take k) s.hops[k].asn
   ·
    have HF2:=Ac (Ch HF.out (show hopFresh t s.hops k=true by rw [HFA.out,d1,d2,d3];rfl))
    cases b5:(s.hops[k].eg == 0)
    ·
     have cf20:=blk2 (Aa ((hz1.t hx).t hx1) HB0.out.1);have cf21:=blk3 (Aa ((hz1.t hx).t hx1) HB0.out.2);have cf22:=blk5 HB1.out
     go_wp2_with fail
     refine Al (by kernel_rfl) (by kernel_rfl) ?_;have q0:=Br cf20;have q2:=ExtW.c3 cf21;have q5:=Bv cf22
     repeat (first | go_big_quiet_step (((first | (go_at_call 200;exact Ai (s_ValidHop s.hops[k] _)) | (go_at_call 118;exact Ai (s_l5Realm t _ _ s.hops[k].asn _ ((ha.ext (((hx0.t hz1).t hx).t hx1)).ext (ExtW.h _)))) | (go_at_call 56;exact Am (s_l9Has (li.take k) _ s.hops[k].asn _ (RdS.pre ((rl.ext (hx.t hx1)).ext (ExtW.h _)) k hkli)))))) | quiet_step (((first | (go_at_call 200;exact Ai (s_ValidHop s.hops[k] _)) | (go_at_call 118;exact Ai (s_l5Realm t _ _ s.hops[k].asn _ ((ha.ext (((hx0.t hz1).t hx).t hx1)).ext (ExtW.h _)))) | (go_at_call 56;exact Am (s_l9Has (li.take k) _ s.hops[k].asn _ (RdS.pre ((rl.ext (hx.t hx1)).ext (ExtW.h _)) k hkli)))))))
     refine wpQuiet_nil ?_;intro w4 hw4;have hz4:=Bc hw4;clear hw4 q0 q2 q5;have HEND:Hid ((s.hops[k].eg == 0)=false∨¬ k+1<s.hops.length):=Ac (.inl b5);clear d1 d2 d3
     rcases Nat.eq_zero_or_pos k with hk0 | hk0
     ·
      have hkz:¬ (0:Int)<(k:Int):=by omega
      have HE:=Ac (Ch HK.out (show wfJoin t s.hops k=true by subst hk0;exact join_zero h0 HEND.out));clear hk0
      try clear cf20
      try clear cf21
      try clear cf22
      have cf23:=blk2 (Aa (((hz1.t hx).t hx1).t hz4) HB0.out.1);have cf24:=blk3 (Aa (((hz1.t hx).t hx1).t hz4) HB0.out.2);have cf25:=blk5 (Aa hz4 HB1.out)
      go_wp2_with fail
      go_roundg (gk - 1)
      case measure=>have h1:=HGK.out;omega
      case rel=>exact⟨k+1,by have h1:=HGK.out;omega,congrArg (Value.int .i64) (by first | omega | (unfold wrap64;omega)),HF2,HE,((hx.t hx1).t hz4)⟩
     obtain⟨j,rfl⟩:∃ j,k=j+1:=⟨k - 1,by omega⟩
     have hkz:(0:Int)<((j+1:Nat):Int):=by omega
     have hj1:((j+1:Nat):Int) - 1=(j:Int):=by omega
     have hjl:j<s.hops.length:=by omega
     have hj4:(j:Int)<(s.hops.length:Int):=by omega
     have HJ:=Ac (join_at (t:=t) hlt HEND.out);obtain⟨b2,off2,hbo,hd⟩:=Ca (r.ext ((((hx0.t hz1).t hx).t hx1).t hz4)) j hjl
     cases hbo
     try clear cf20
     try clear cf21
     try clear cf22
     have cf26:=blk2 (Aa (((hz1.t hx).t hx1).t hz4) HB0.out.1);have cf27:=blk3 (Aa (((hz1.t hx).t hx1).t hz4) HB0.out.2);have cf28:=blk5 (Aa hz4 HB1.out)
     go_wp2_with fail
     refine Al (by kernel_rfl) (by kernel_rfl) ?_;have q0:=Br cf26;have q2:=ExtW.c3 cf27;have q5:=Bv cf28;have q10:=Bv hd
     repeat (first | go_big_quiet_step (((first | (go_at_call 50;exact Ai (s_RemoteEnd t _ _ s.hops[j].asn s.hops[j].eg _ ((hk.ext ((((hx0.t hz1).t hx).t hx1).t hz4)).ext (ExtW.h _))))))) | quiet_step (((first | (go_at_call 50;exact Ai (s_RemoteEnd t _ _ s.hops[j].asn s.hops[j].eg _ ((hk.ext ((((hx0.t hz1).t hx).t hx1).t hz4)).ext (ExtW.h _))))))))
     refine wpQuiet_nil ?_;intro w5 hw5;have hz5:=Bc hw5;clear hw5 q0 q2 q5 q10;generalize hR:remEnd t s.hops[j].asn s.hops[j].eg=R at *;have HR:=Ac hR;clear hR
     cases c1:(R.1 == s.hops[j+1].asn)
     ·
      have c1':(R.1 != s.hops[j+1].asn)=true:=by simp only [bne,c1];rfl
      have HE:=Ac (wf_no3 (t:=t) hlt (show wfJoin t s.hops (j+1)=false by rw [HJ.out];simp [c1]))
      try clear cf26
      try clear cf27
      try clear cf28
      have cf29:=blk2 (Aa ((((hz1.t hx).t hx1).t hz4).t hz5) HB0.out.1);have cf30:=blk3 (Aa ((((hz1.t hx).t hx1).t hz4).t hz5) HB0.out.2);have cf31:=blk5 (Aa (hz4.t hz5) HB1.out);have cf32:=Av hz5 hd
      go_wp2_with fail
      go_ret
      exact⟨Ah HE.out.symm,(((((hx0.t hz1).t hx).t hx1).t hz4).t hz5)⟩
     have c1':(R.1 != s.hops[j+1].asn)=false:=by simp only [bne,c1];rfl
     cases c2:(R.2 == s.hops[j+1].ing)
     ·
      have c2':(R.2 != s.hops[j+1].ing)=true:=by simp only [bne,c2];rfl
      have HE:=Ac (wf_no3 (t:=t) hlt (show wfJoin t s.hops (j+1)=false by rw [HJ.out];simp [c2]))
      try clear cf26
      try clear cf27
      try clear cf28
      have cf33:=blk2 (Aa ((((hz1.t hx).t hx1).t hz4).t hz5) HB0.out.1);have cf34:=blk3 (Aa ((((hz1.t hx).t hx1).t hz4).t hz5) HB0.out.2);have cf35:=blk5 (Aa (hz4.t hz5) HB1.out);have cf36:=Av hz5 hd
      go_wp2_with fail
      go_ret
      exact⟨Ah HE.out.symm,(((((hx0.t hz1).t hx).t hx1).t hz4).t hz5)⟩
     have c2':(R.2 != s.hops[j+1].ing)=false:=by simp only [bne,c2];rfl
     have HE:=Ac (Ch HK.out (show wfJoin t s.hops (j+1)=true by rw [HJ.out,c1,c2];rfl))
     try clear cf26
     try clear cf27
     try clear cf28
     have cf37:=blk2 (Aa ((((hz1.t hx).t hx1).t hz4).t hz5) HB0.out.1);have cf38:=blk3 (Aa ((((hz1.t hx).t hx1).t hz4).t hz5) HB0.out.2);have cf39:=blk5 (Aa (hz4.t hz5) HB1.out);have cf40:=Av hz5 hd
     go_wp2_with fail
     go_roundg (gk - 1)
     case measure=>have h1:=HGK.out;omega
     case rel=>exact⟨j+1+1,by have h1:=HGK.out;omega,congrArg (Value.int .i64) (by first | omega | (unfold wrap64;omega)),HF2,HE,(((hx.t hx1).t hz4).t hz5)⟩
    have hend:k+1<s.hops.length∨¬ k+1<s.hops.length:=by omega
    rcases hend with hend | hend
    ·
     have h6:decide ((k:Int)<(s.hops.length:Int) - 1)=true:=by simp;omega
     have h6':(k:Int)<(s.hops.length:Int) - 1:=by omega
     have HE:=Ac (wf_no3 (t:=t) hlt (join_no1 hlt b5 hend));clear hend;have cf41:=blk2 (Aa ((hz1.t hx).t hx1) HB0.out.1);have cf42:=blk3 (Aa ((hz1.t hx).t hx1) HB0.out.2);have cf43:=blk5 HB1.out
     go_wp2_with fail
     refine Al (by kernel_rfl) (by kernel_rfl) ?_;have q0:=Br cf41;have q2:=ExtW.c3 cf42;have q5:=Bv cf43
     repeat (first | go_big_quiet_step (((first | (go_at_call 200;exact Ai (s_ValidHop s.hops[k] _)) | (go_at_call 118;exact Ai (s_l5Realm t _ _ s.hops[k].asn _ ((ha.ext (((hx0.t hz1).t hx).t hx1)).ext (ExtW.h _)))) | (go_at_call 56;exact Am (s_l9Has (li.take k) _ s.hops[k].asn _ (RdS.pre ((rl.ext (hx.t hx1)).ext (ExtW.h _)) k hkli)))))) | quiet_step (((first | (go_at_call 200;exact Ai (s_ValidHop s.hops[k] _)) | (go_at_call 118;exact Ai (s_l5Realm t _ _ s.hops[k].asn _ ((ha.ext (((hx0.t hz1).t hx).t hx1)).ext (ExtW.h _)))) | (go_at_call 56;exact Am (s_l9Has (li.take k) _ s.hops[k].asn _ (RdS.pre ((rl.ext (hx.t hx1)).ext (ExtW.h _)) k hkli)))))))
     refine wpQuiet_nil ?_;intro w6 hw6;have hz6:=Bc hw6;clear hw6 q0 q2 q5
     try clear cf41
     try clear cf42
     try clear cf43
     have cf44:=blk2 (Aa (((hz1.t hx).t hx1).t hz6) HB0.out.1);have cf45:=blk3 (Aa (((hz1.t hx).t hx1).t hz6) HB0.out.2);have cf46:=blk5 (Aa hz6 HB1.out)
     go_wp2_with fail
     go_ret
     exact⟨Ah HE.out.symm,((((hx0.t hz1).t hx).t hx1).t hz6)⟩
    have h6:decide ((k:Int)<(s.hops.length:Int) - 1)=false:=by simp;omega
    have h6':¬ (k:Int)<(s.hops.length:Int) - 1:=by omega
    have HEND:Hid ((s.hops[k].eg == 0)=false∨¬ k+1<s.hops.length):=Ac (.inr hend);clear hend;have cf47:=blk2 (Aa ((hz1.t hx).t hx1) HB0.out.1);have cf48:=blk3 (Aa ((hz1.t hx).t hx1) HB0.out.2);have cf49:=blk5 HB1.out
    go_wp2_with fail
    refine Al (by kernel_rfl) (by kernel_rfl) ?_;have q0:=Br cf47;have q2:=ExtW.c3 cf48;have q5:=Bv cf49
    repeat (first | go_big_quiet_step (((first | (go_at_call 200;exact Ai (s_ValidHop s.hops[k] _)) | (go_at_call 118;exact Ai (s_l5Realm t _ _ s.hops[k].asn _ ((ha.ext (((hx0.t hz1).t hx).t hx1)).ext (ExtW.h _)))) | (go_at_call 56;exact Am (s_l9Has (li.take k) _ s.hops[k].asn _ (RdS.pre ((rl.ext (hx.t hx1)).ext (ExtW.h _)) k hkli)))))) | quiet_step (((first | (go_at_call 200;exact Ai (s_ValidHop s.hops[k] _)) | (go_at_call 118;exact Ai (s_l5Realm t _ _ s.hops[k].asn _ ((ha.ext (((hx0.t hz1).t hx).t hx1)).ext (ExtW.h _)))) | (go_at_call 56;exact Am (s_l9Has (li.take k) _ s.hops[k].asn _ (RdS.pre ((rl.ext (hx.t hx1)).ext (ExtW.h _)) k hkli)))))))
    refine wpQuiet_nil ?_;intro w7 hw7;have hz7:=Bc hw7;clear hw7 q0 q2 q5;clear d1 d2 d3
    rcases Nat.eq_zero_or_pos k with hk0 | hk0
    ·
     have hkz:¬ (0:Int)<(k:Int):=by omega
     have HE:=Ac (Ch HK.out (show wfJoin t s.hops k=true by subst hk0;exact join_zero h0 HEND.out));clear hk0
     try clear cf47
     try clear cf48
     try clear cf49
     have cf50:=blk2 (Aa (((hz1.t hx).t hx1).t hz7) HB0.out.1);have cf51:=blk3 (Aa (((hz1.t hx).t hx1).t hz7) HB0.out.2);have cf52:=blk5 (Aa hz7 HB1.out)
     go_wp2_with fail
     go_roundg (gk - 1)
     case measure=>have h1:=HGK.out;omega
     case rel=>exact⟨k+1,by have h1:=HGK.out;omega,congrArg (Value.int .i64) (by first | omega | (unfold wrap64;omega)),HF2,HE,((hx.t hx1).t hz7)⟩
    obtain⟨j,rfl⟩:∃ j,k=j+1:=⟨k - 1,by omega⟩
    have hkz:(0:Int)<((j+1:Nat):Int):=by omega
    have hj1:((j+1:Nat):Int) - 1=(j:Int):=by omega
    have hjl:j<s.hops.length:=by omega
    have hj4:(j:Int)<(s.hops.length:Int):=by omega
    have HJ:=Ac (join_at (t:=t) hlt HEND.out);obtain⟨b2,off2,hbo,hd⟩:=Ca (r.ext ((((hx0.t hz1).t hx).t hx1).t hz7)) j hjl
    cases hbo
    try clear cf47
    try clear cf48
    try clear cf49
    have cf53:=blk2 (Aa (((hz1.t hx).t hx1).t hz7) HB0.out.1);have cf54:=blk3 (Aa (((hz1.t hx).t hx1).t hz7) HB0.out.2);have cf55:=blk5 (Aa hz7 HB1.out)
    go_wp2_with fail
    refine Al (by kernel_rfl) (by kernel_rfl) ?_;have q0:=Br cf53;have q2:=ExtW.c3 cf54;have q5:=Bv cf55;have q10:=Bv hd
    repeat (first | go_big_quiet_step (((first | (go_at_call 50;exact Ai (s_RemoteEnd t _ _ s.hops[j].asn s.hops[j].eg _ ((hk.ext ((((hx0.t hz1).t hx).t hx1).t hz7)).ext (ExtW.h _))))))) | quiet_step (((first | (go_at_call 50;exact Ai (s_RemoteEnd t _ _ s.hops[j].asn s.hops[j].eg _ ((hk.ext ((((hx0.t hz1).t hx).t hx1).t hz7)).ext (ExtW.h _))))))))
    refine wpQuiet_nil ?_;intro w8 hw8;have hz8:=Bc hw8;clear hw8 q0 q2 q5 q10;generalize hR:remEnd t s.hops[j].asn s.hops[j].eg=R at *;have HR:=Ac hR;clear hR
    cases c1:(R.1 == s.hops[j+1].asn)
    ·
     have c1':(R.1 != s.hops[j+1].asn)=true:=by simp only [bne,c1];rfl
     have HE:=Ac (wf_no3 (t:=t) hlt (show wfJoin t s.hops (j+1)=false by rw [HJ.out];simp [c1]))
     try clear cf53
     try clear cf54
     try clear cf55
     have cf56:=blk2 (Aa ((((hz1.t hx).t hx1).t hz7).t hz8) HB0.out.1);have cf57:=blk3 (Aa ((((hz1.t hx).t hx1).t hz7).t hz8) HB0.out.2);have cf58:=blk5 (Aa (hz7.t hz8) HB1.out);have cf59:=Av hz8 hd
     go_wp2_with fail
     go_ret
     exact⟨Ah HE.out.symm,(((((hx0.t hz1).t hx).t hx1).t hz7).t hz8)⟩
    have c1':(R.1 != s.hops[j+1].asn)=false:=by simp only [bne,c1];rfl
    cases c2:(R.2 == s.hops[j+1].ing)
    ·
     have c2':(R.2 != s.hops[j+1].ing)=true:=by simp only [bne,c2];rfl
     have HE:=Ac (wf_no3 (t:=t) hlt (show wfJoin t s.hops (j+1)=false by rw [HJ.out];simp [c2]))
     try clear cf53
     try clear cf54
     try clear cf55
     have cf60:=blk2 (Aa ((((hz1.t hx).t hx1).t hz7).t hz8) HB0.out.1);have cf61:=blk3 (Aa ((((hz1.t hx).t hx1).t hz7).t hz8) HB0.out.2);have cf62:=blk5 (Aa (hz7.t hz8) HB1.out);have cf63:=Av hz8 hd
     go_wp2_with fail
     go_ret
     exact⟨Ah HE.out.symm,(((((hx0.t hz1).t hx).t hx1).t hz7).t hz8)⟩
    have c2':(R.2 != s.hops[j+1].ing)=false:=by simp only [bne,c2];rfl
    have HE:=Ac (Ch HK.out (show wfJoin t s.hops (j+1)=true by rw [HJ.out,c1,c2];rfl))
    try clear cf53
    try clear cf54
    try clear cf55
    have cf64:=blk2 (Aa ((((hz1.t hx).t hx1).t hz7).t hz8) HB0.out.1);have cf65:=blk3 (Aa ((((hz1.t hx).t hx1).t hz7).t hz8) HB0.out.2);have cf66:=blk5 (Aa (hz7.t hz8) HB1.out);have cf67:=Av hz8 hd
    go_wp2_with fail
    go_roundg (gk - 1)
    case measure=>have h1:=HGK.out;omega
    case rel=>exact⟨j+1+1,by have h1:=HGK.out;omega,congrArg (Value.int .i64) (by first | omega | (unfold wrap64;omega)),HF2,HE,(((hx.t hx1).t hz7).t hz8)⟩
   have cf68:=blk2 (Aa ((hz1.t hx).t hx1) HB0.out.1);have cf69:=blk3 (Aa ((hz1.t hx).t hx1) HB0.out.2);have cf70:=blk5 HB1.out
   go_wp2_with fail
   refine Al (by kernel_rfl) (by kernel_rfl) ?_;have q0:=Br cf68;have q2:=ExtW.c3 cf69;have q5:=Bv cf70
   repeat (first | go_big_quiet_step (((first | (go_at_call 200;exact Ai (s_ValidHop s.hops[k] _)) | (go_at_call 118;exact Ai (s_l5Realm t _ _ s.hops[k].asn _ ((ha.ext (((hx0.t hz1).t hx).t hx1)).ext (ExtW.h _)))) | (go_at_call 56;exact Am (s_l9Has (li.take k) _ s.hops[k].asn _ (RdS.pre ((rl.ext (hx.t hx1)).ext (ExtW.h _)) k hkli)))))) | quiet_step (((first | (go_at_call 200;exact Ai (s_ValidHop s.hops[k] _)) | (go_at_call 118;exact Ai (s_l5Realm t _ _ s.hops[k].asn _ ((ha.ext (((hx0.t hz1).t hx).t hx1)).ext (ExtW.h _)))) | (go_at_call 56;exact Am (s_l9Has (li.take k) _ s.hops[k].asn _ (RdS.pre ((rl.ext (hx.t hx1)).ext (ExtW.h _)) k hkli)))))))
   refine wpQuiet_nil ?_;intro w9 hw9;have hz9:=Bc hw9;clear hw9 q0 q2 q5;have HE:=Ac (wf_no1 (s:=s) (ok_no2 (t:=t) hlt (by rw [HFA.out];simp [d1,d2,d3])))
   try clear cf68
   try clear cf69
   try clear cf70
   have cf71:=blk2 (Aa (((hz1.t hx).t hx1).t hz9) HB0.out.1);have cf72:=blk3 (Aa (((hz1.t hx).t hx1).t hz9) HB0.out.2);have cf73:=blk5 (Aa hz9 HB1.out)
   go_wp2_with fail
   go_ret
   exact⟨Ah HE.out.symm,((((hx0.t hz1).t hx).t hx1).t hz9)⟩
  obtain rfl:k=s.hops.length:=by omega
  have HE:=Ac (wf_yes (ok_yes B1.out HF.out) h0 B2.out HK.out)
  try clear cf3
  try clear cf4
  try clear cf5
  have cf74:=blk2 (Aa (hz1.t hx) HB0.out.1);have cf75:=blk3 (Aa (hz1.t hx) HB0.out.2)
  go_wp2_with fail
  go_ret
  exact⟨Ah HE.out.symm,((hx0.t hz1).t hx)⟩
def kindGo (t:Topo):Int→List Hop→Int
 | kd, [] => if kd == 1 then 1 else if kd == 2 then 2 else 0
 | kd, h :: l => if h.eg == 0 then kindGo t kd l else if (kd != 0) && (ifKind t h.asn h.eg != kd) then 0 else kindGo t (ifKind t h.asn h.eg) l
def segKind (t:Topo) (s:Seg):Int:=if wfSeg t s && (asAt t (hopAt s.hops 0).asn).core then kindGo t 0 s.hops else 0
def validSeg (t:Topo) (s:Seg):Bool:=wfSeg t s && decide (firstBad t s<0) && (segKind t s != 0) && inR s.ts 0 1000000 && isRes s.beta
theorem wf_facts {t:Topo} {s:Seg} (h:wfSeg t s=true):0<s.hops.length∧isAs t (hopAt s.hops 0).asn=true:=by
 unfold wfSeg at h;simp only [Bool.and_eq_true] at h;have hl:=wf_len' h.1.1;refine⟨by omega,?_⟩;have h1:=h.1.1;unfold hopsOk at h1;simp only [Bool.and_eq_true] at h1;have h2:=allTo_true.1 h1.2 0 (by omega);unfold hopFresh at h2;simp only [Bool.and_eq_true] at h2;exact h2.1.2
theorem kind_skip {t:Topo} {l:List Hop} {k:Nat} {kd:Int} (hk:k<l.length) (h:(l[k].eg == 0)=true):kindGo t kd (l.drop k)=kindGo t kd (l.drop (k+1)):=by
 rw [List.drop_eq_getElem_cons hk];conv=>lhs;unfold kindGo
 rw [h];rfl
theorem kind_bad {t:Topo} {l:List Hop} {k:Nat} {kd:Int} (hk:k<l.length) (h:(l[k].eg == 0)=false) (h1:(kd == 0)=false) (h2:(ifKind t l[k].asn l[k].eg == kd)=false):kindGo t kd (l.drop k)=0:=by
 rw [List.drop_eq_getElem_cons hk];unfold kindGo
 simp [h,bne,h1,h2]
theorem kind_go {t:Topo} {l:List Hop} {k:Nat} {kd:Int} (hk:k<l.length) (h:(l[k].eg == 0)=false) (h1:(kd == 0)=true∨(ifKind t l[k].asn l[k].eg == kd)=true):kindGo t kd (l.drop k)=kindGo t (ifKind t l[k].asn l[k].eg) (l.drop (k+1)):=by
 rw [List.drop_eq_getElem_cons hk];conv=>lhs;unfold kindGo
 rcases h1 with h1 | h1 <;> simp [h,bne,h1]
theorem s_FirstAS (s:Seg) (v:Value) (w:World) (r:RdS Hop.rep w v s.hops) (h0:0<s.hops.length) (q:Int) (hq:s.hops[0].asn=q) :
  Calls Tryz.prog 86 #[.agg #[.int .i64 s.ts,.int .i64 s.beta,v]] w fun e w'=>e=.returned (.int .i64 (q))∧Ext w w':=by
 obtain⟨o,cap,rfl,hsm⟩:=r.shape;obtain⟨hx0,HB0⟩:=ea1 w (.cells #[.int .i64 s.ts,.int .i64 s.beta,.slice o s.hops.length cap] 116);replace HB0:=Ac HB0
 go_enter Tryz.func86,Tryz.ntmps86
 obtain⟨b,off,rfl,hc⟩:=Ca (r.ext hx0) 0 h0;simp only [Nat.zero_mul,Nat.add_zero] at hc;have h1:((s.hops.length:Int) == 0)=false:=by simp;exact List.ne_nil_of_length_pos h0
 have h2:(0:Int)<(s.hops.length:Int):=by omega
 have HE:=Ac hq;clear hq;have cf1:=blk3 HB0.out
 go_wp2_with fail
 go_ret
 exact⟨ret_int HE.out,hx0⟩
theorem s_SegmentKind (t:Topo) (v1 v2:Value) (s:Seg) (v:Value)  (w:World) (ha:RdS ASd.rep w v1 t.ases) (hk:RdS Lnk.rep w v2 t.links) (r:RdS Hop.rep w v s.hops) (hl:s.hops.length≤1048576) :
  Calls Tryz.prog 168 #[.agg #[v1,v2],.agg #[.int .i64 s.ts,.int .i64 s.beta,v]] w fun e w'=>e=.returned (.int .i64 (segKind t s))∧Ext w w':=by
 obtain⟨o,cap,rfl,hsm⟩:=r.shape;obtain⟨hx0,HB0⟩:=ea2 w (.cells #[v1,v2] 27) (.cells #[.int .i64 s.ts,.int .i64 s.beta,.slice o s.hops.length cap] 116);replace HB0:=Ac HB0
 go_enter Tryz.func168,Tryz.ntmps168
 obtain⟨W0,hW0⟩:∃ W0:World,W0=((w.alloc (.cells #[v1,v2] 27)).alloc (.cells #[.int .i64 s.ts,.int .i64 s.beta,.slice o s.hops.length cap] 116)):=⟨_,rfl⟩
 rw [← hW0] at hx0 HB0;obtain⟨oA,cA,rfl,_⟩:=ha.shape;have cf1:=blk2 HB0.out.1;have cf2:=blk3 HB0.out.2
 go_wp2_with fail
 rw [← hW0];clear hW0
 cases bb:wfSeg t s
 ·
  have HE:=Ac (show segKind t s=0 by unfold segKind;rw [bb];rfl);have cf3:=blk2 HB0.out.1;have cf4:=blk3 HB0.out.2
  go_wp2_with fail
  refine Al (by kernel_rfl) (by kernel_rfl) ?_;have q0:=Br cf3;have q2:=ExtW.c3 cf4
  repeat (first | go_big_quiet_step (((first | (go_at_call 194;exact Ai (s_WellFormed t _ _ s _ _ ((ha.ext hx0).ext (ExtW.h _)) ((hk.ext hx0).ext (ExtW.h _)) ((r.ext hx0).ext (ExtW.h _)) hl))))) | quiet_step (((first | (go_at_call 194;exact Ai (s_WellFormed t _ _ s _ _ ((ha.ext hx0).ext (ExtW.h _)) ((hk.ext hx0).ext (ExtW.h _)) ((r.ext hx0).ext (ExtW.h _)) hl))))))
  refine wpQuiet_nil ?_;intro w1 hw1;have hz1:=Bc hw1;clear hw1 q0 q2
  go_wp2_with fail
  go_ret
  exact⟨ret_int HE.out.symm,(hx0.t hz1)⟩
 obtain⟨h0,hA⟩:=wf_facts bb;obtain⟨b,off,rfl,hc0⟩:=Ca (r.ext hx0) 0 h0;have h00:(0:Int)<(s.hops.length:Int):=by omega
 simp only [Nat.zero_mul,Nat.add_zero] at hc0;have hx00:hopAt s.hops 0=s.hops[0]:=Bz h0;rw [hx00] at hA;have HX0:=Ac hx00;clear hx00;obtain⟨hp1,hp2⟩:=isAs_lt hA;have hp3:s.hops[0].asn<t.ases.length:=by omega
 obtain⟨bA,offA,rfl,hcA⟩:=ASd.at (ha.ext hx0) s.hops[0].asn.toNat hp2;have HC:=Ac (show(asAt t s.hops[0].asn).core=t.ases[s.hops[0].asn.toNat].core by rw [asAt_at hp1 hp2])
 cases bc:t.ases[s.hops[0].asn.toNat].core
 ·
  have HE:=Ac (show segKind t s=0 by unfold segKind;rw [HX0.out,HC.out,bc,bb];rfl)
  try clear cf1
  try clear cf2
  have cf5:=blk2 HB0.out.1;have cf6:=blk3 HB0.out.2
  go_wp2_with fail
  refine Al (by kernel_rfl) (by kernel_rfl) ?_;have q0:=Br cf5;have q2:=ExtW.c3 cf6;have q5:=Bv hc0;have q10:=ExtW.c3 hcA
  repeat (first | go_big_quiet_step (((first | (go_at_call 194;exact Ai (s_WellFormed t _ _ s _ _ ((ha.ext hx0).ext (ExtW.h _)) ((hk.ext hx0).ext (ExtW.h _)) ((r.ext hx0).ext (ExtW.h _)) hl)) | (go_at_call 86;exact Ai (s_FirstAS s _ _ ((r.ext hx0).ext (ExtW.h _)) h0 _ rfl))))) | quiet_step (((first | (go_at_call 194;exact Ai (s_WellFormed t _ _ s _ _ ((ha.ext hx0).ext (ExtW.h _)) ((hk.ext hx0).ext (ExtW.h _)) ((r.ext hx0).ext (ExtW.h _)) hl)) | (go_at_call 86;exact Ai (s_FirstAS s _ _ ((r.ext hx0).ext (ExtW.h _)) h0 _ rfl))))))
  refine wpQuiet_nil ?_;intro w2 hw2;have hz2:=Bc hw2;clear hw2 q0 q2 q5 q10
  go_wp2_with fail
  go_ret
  exact⟨ret_int HE.out.symm,(hx0.t hz2)⟩
 have HE:=Ac (show segKind t s=kindGo t 0 (s.hops.drop 0) by unfold segKind;rw [HX0.out,HC.out,bc,bb];rfl)
 try clear cf1
 try clear cf2
 have cf7:=blk2 HB0.out.1;have cf8:=blk3 HB0.out.2
 go_wp2_with fail
 refine Al (by kernel_rfl) (by kernel_rfl) ?_;have q0:=Br cf7;have q2:=ExtW.c3 cf8;have q5:=Bv hc0;have q10:=ExtW.c3 hcA
 repeat (first | go_big_quiet_step (((first | (go_at_call 194;exact Ai (s_WellFormed t _ _ s _ _ ((ha.ext hx0).ext (ExtW.h _)) ((hk.ext hx0).ext (ExtW.h _)) ((r.ext hx0).ext (ExtW.h _)) hl)) | (go_at_call 86;exact Ai (s_FirstAS s _ _ ((r.ext hx0).ext (ExtW.h _)) h0 _ rfl))))) | quiet_step (((first | (go_at_call 194;exact Ai (s_WellFormed t _ _ s _ _ ((ha.ext hx0).ext (ExtW.h _)) ((hk.ext hx0).ext (ExtW.h _)) ((r.ext hx0).ext (ExtW.h _)) hl)) | (go_at_call 86;exact Ai (s_FirstAS s _ _ ((r.ext hx0).ext (ExtW.h _)) h0 _ rfl))))))
 refine wpQuiet_nil ?_;intro w3 hw3;have hz3:=Bc hw3;clear hw3 q0 q2 q5 q10
 try clear cf7
 try clear cf8
 have cf9:=blk2 (Aa hz3 HB0.out.1);have cf10:=blk3 (Aa hz3 HB0.out.2)
 go_wp2_with fail
 clear hc0 hcA bc bb hA
 go_loopg [5,6] s.hops.length (fun gk kd i wr=>∃ (k:Nat) (n:Int),gk+k=s.hops.length∧kd=.int .i64 n∧i=.int .i64 k∧Hid (segKind t s=kindGo t n (s.hops.drop k))∧Ext w3 wr)
 case atStart=>exact⟨0,0,by omega,rfl,rfl,HE,Ab _⟩
 case round=>
  obtain⟨k,n,hgk,rfl,rfl,HK,hx⟩:=hrel;have HGK:=Ac hgk;clear hgk;have hkl:k≤s.hops.length:=by have h1:=HGK.out;omega
  by_cases hlt:k<s.hops.length
  ·
   obtain⟨b',off',hbo,hc⟩:=Ca (r.ext ((hx0.t hz3).t hx)) k hlt
   cases hbo
   have h4:(k:Int)<(s.hops.length:Int):=by omega
   cases b5:(s.hops[k].eg == 0)
   ·
    try clear cf9
    try clear cf10
    have cf11:=blk2 (Aa (hz3.t hx) HB0.out.1);have cf12:=blk3 (Aa (hz3.t hx) HB0.out.2)
    go_upto_region 8 with (fail)
    go_wp2_with fail
    refine Al (by kernel_rfl) (by kernel_rfl) ?_;have q0:=Br cf11;have q2:=ExtW.c3 cf12;have q5:=Bv hc
    repeat (first | go_big_quiet_step (((first | (go_at_call 155;exact Ai (s_InterfaceKind t _ _ s.hops[k].asn s.hops[k].eg _ ((hk.ext ((hx0.t hz3).t hx)).ext (ExtW.h _))))))) | quiet_step (((first | (go_at_call 155;exact Ai (s_InterfaceKind t _ _ s.hops[k].asn s.hops[k].eg _ ((hk.ext ((hx0.t hz3).t hx)).ext (ExtW.h _))))))))
    refine wpQuiet_nil ?_;intro w4 hw4;have hz4:=Bc hw4;clear hw4 q0 q2 q5;generalize hik:ifKind t s.hops[k].asn s.hops[k].eg=ik;have HIK:=Ac hik;clear hik
    cases k0:(n == 0)
    ·
     have k0':(n != 0)=true:=by simp only [bne,k0];rfl
     cases k1:(ik == n)
     ·
      have k1':(ik != n)=true:=by simp only [bne,k1];rfl
      have HE2:=Ac (HK.out.trans (kind_bad hlt b5 k0 (by rw [HIK.out];exact k1)))
      try clear cf11
      try clear cf12
      have cf13:=blk2 (Aa ((hz3.t hx).t hz4) HB0.out.1);have cf14:=blk3 (Aa ((hz3.t hx).t hz4) HB0.out.2);have cf15:=Av hz4 hc
      go_wp2_with fail
      go_ret
      exact⟨ret_int HE2.out.symm,(((hx0.t hz3).t hx).t hz4)⟩
     have k1':(ik != n)=false:=by simp only [bne,k1];rfl
     have HE2:=Ac (HK.out.trans (kind_go hlt b5 (.inr (by rw [HIK.out];exact k1))));rw [HIK.out] at HE2
     try clear cf11
     try clear cf12
     have cf16:=blk2 (Aa ((hz3.t hx).t hz4) HB0.out.1);have cf17:=blk3 (Aa ((hz3.t hx).t hz4) HB0.out.2);have cf18:=Av hz4 hc
     go_wp2_with fail
     go_roundg (gk - 1)
     case measure=>have h1:=HGK.out;omega
     case rel=>exact⟨k+1,_,by have h1:=HGK.out;omega,rfl,congrArg (Value.int .i64) (by first | omega | (unfold wrap64;omega)),HE2,(hx.t hz4)⟩
    have k0':(n != 0)=false:=by simp only [bne,k0];rfl
    have HE2:=Ac (HK.out.trans (kind_go hlt b5 (.inl k0)));rw [HIK.out] at HE2
    try clear cf11
    try clear cf12
    have cf19:=blk2 (Aa ((hz3.t hx).t hz4) HB0.out.1);have cf20:=blk3 (Aa ((hz3.t hx).t hz4) HB0.out.2);have cf21:=Av hz4 hc
    go_wp2_with fail
    go_roundg (gk - 1)
    case measure=>have h1:=HGK.out;omega
    case rel=>exact⟨k+1,_,by have h1:=HGK.out;omega,rfl,congrArg (Value.int .i64) (by first | omega | (unfold wrap64;omega)),HE2,(hx.t hz4)⟩
   have HE2:=Ac (HK.out.trans (kind_skip (t:=t) hlt b5))
   try clear cf9
   try clear cf10
   have cf22:=blk2 (Aa (hz3.t hx) HB0.out.1);have cf23:=blk3 (Aa (hz3.t hx) HB0.out.2)
   go_wp2_with fail
   go_roundg (gk - 1)
   case measure=>have h1:=HGK.out;omega
   case rel=>exact⟨k+1,_,by have h1:=HGK.out;omega,rfl,congrArg (Value.int .i64) (by first | omega | (unfold wrap64;omega)),HE2,hx⟩
  obtain rfl:k=s.hops.length:=by omega
  have HE2:Hid (segKind t s=if n == 1 then 1 else if n == 2 then 2 else 0):=Ac (by rw [HK.out,List.drop_length];rfl)
  cases k1:(n == 1)
  ·
   cases k2:(n == 2)
   ·
    try clear cf9
    try clear cf10
    have cf24:=blk2 (Aa (hz3.t hx) HB0.out.1);have cf25:=blk3 (Aa (hz3.t hx) HB0.out.2)
    go_wp2_with fail
    go_ret
    exact⟨ret_int (by rw [HE2.out,k1,k2];rfl),((hx0.t hz3).t hx)⟩
   try clear cf9
   try clear cf10
   have cf26:=blk2 (Aa (hz3.t hx) HB0.out.1);have cf27:=blk3 (Aa (hz3.t hx) HB0.out.2)
   go_wp2_with fail
   go_ret
   exact⟨ret_int (by rw [HE2.out,k1,k2];rfl),((hx0.t hz3).t hx)⟩
  try clear cf9
  try clear cf10
  have cf28:=blk2 (Aa (hz3.t hx) HB0.out.1);have cf29:=blk3 (Aa (hz3.t hx) HB0.out.2)
  go_wp2_with fail
  go_ret
  exact⟨ret_int (by rw [HE2.out,k1];rfl),((hx0.t hz3).t hx)⟩
theorem s_ValidSegment (t:Topo) (v1 v2:Value) (s:Seg) (v:Value)  (w:World) (ha:RdS ASd.rep w v1 t.ases) (hk:RdS Lnk.rep w v2 t.links) (r:RdS Hop.rep w v s.hops) (hl:s.hops.length≤1048576) :
  Calls Tryz.prog 165 #[.agg #[v1,v2],.agg #[.int .i64 s.ts,.int .i64 s.beta,v]] w fun e w'=>e=.returned (.bool (validSeg t s))∧Ext w w':=by
 obtain⟨o,cap,rfl,hsm⟩:=r.shape;obtain⟨hx0,HB0⟩:=ea2 w (.cells #[v1,v2] 27) (.cells #[.int .i64 s.ts,.int .i64 s.beta,.slice o s.hops.length cap] 116);replace HB0:=Ac HB0
 go_enter Tryz.func165,Tryz.ntmps165
 obtain⟨W0,hW0⟩:∃ W0:World,W0=((w.alloc (.cells #[v1,v2] 27)).alloc (.cells #[.int .i64 s.ts,.int .i64 s.beta,.slice o s.hops.length cap] 116)):=⟨_,rfl⟩
 rw [← hW0] at hx0 HB0;have cf1:=blk2 HB0.out.1;have cf2:=blk3 HB0.out.2
 go_wp2_with fail
 rw [← hW0];clear hW0;refine(s_WellFormed t _ _ s _ _ (ha.ext hx0) (hk.ext hx0) (r.ext hx0) hl).mono ?_;rintro e w1 ⟨rfl,hz1⟩
 cases b1:wfSeg t s
 ·
  have HE:=Ac (show validSeg t s=false by simp [validSeg,b1])
  try clear cf1
  try clear cf2
  have cf3:=blk2 (Aa hz1 HB0.out.1);have cf4:=blk3 (Aa hz1 HB0.out.2)
  go_wp2_with fail
  go_ret
  exact⟨Ah HE.out.symm,(hx0.t hz1)⟩
 try clear cf1
 try clear cf2
 have cf5:=blk2 (Aa hz1 HB0.out.1);have cf6:=blk3 (Aa hz1 HB0.out.2)
 go_wp2_with fail
 refine(s_FirstInvalidHop t _ _ s _ _ (ha.ext (hx0.t hz1)) (r.ext (hx0.t hz1)) hl).mono ?_;rintro e w2 ⟨rfl,hz2⟩
 cases b2:decide (firstBad t s<0)
 ·
  have HE:=Ac (show validSeg t s=false by simp [validSeg,b2])
  try clear cf5
  try clear cf6
  have cf7:=blk2 (Aa (hz1.t hz2) HB0.out.1);have cf8:=blk3 (Aa (hz1.t hz2) HB0.out.2)
  go_wp2_with fail
  go_ret
  exact⟨Ah HE.out.symm,((hx0.t hz1).t hz2)⟩
 try clear cf5
 try clear cf6
 have cf9:=blk2 (Aa (hz1.t hz2) HB0.out.1);have cf10:=blk3 (Aa (hz1.t hz2) HB0.out.2)
 go_wp2_with fail
 refine(s_SegmentKind t _ _ s _ _ (ha.ext ((hx0.t hz1).t hz2)) (hk.ext ((hx0.t hz1).t hz2)) (r.ext ((hx0.t hz1).t hz2)) hl).mono ?_;rintro e w3 ⟨rfl,hz3⟩
 cases b3:(segKind t s == 0)
 ·
  have b3':(segKind t s != 0)=true:=by simp only [bne,b3];rfl
  try clear cf9
  try clear cf10
  have cf11:=blk2 (Aa ((hz1.t hz2).t hz3) HB0.out.1);have cf12:=blk3 (Aa ((hz1.t hz2).t hz3) HB0.out.2)
  go_wp2_with fail
  refine(s_l1In _ _ _ _).mono ?_;rintro e _ ⟨rfl,rfl⟩
  cases b4:inR s.ts 0 1000000
  ·
   have HE:=Ac (show validSeg t s=false by simp [validSeg,b4])
   go_wp2_with fail
   go_ret
   exact⟨Ah HE.out.symm,(((hx0.t hz1).t hz2).t hz3)⟩
  go_wp2_with fail
  refine(s_l3Ok _ _).mono ?_;rintro e _ ⟨rfl,rfl⟩;have HE:=Ac (show validSeg t s=isRes s.beta by unfold validSeg;rw [b1,b2,b3',b4];rfl)
  go_wp2_with fail
  go_ret
  exact⟨Ah HE.out.symm,(((hx0.t hz1).t hz2).t hz3)⟩
 have b3':(segKind t s != 0)=false:=by simp only [bne,b3];rfl
 have HE:=Ac (show validSeg t s=false by simp [validSeg,b3'])
 try clear cf9
 try clear cf10
 have cf13:=blk2 (Aa ((hz1.t hz2).t hz3) HB0.out.1);have cf14:=blk3 (Aa ((hz1.t hz2).t hz3) HB0.out.2)
 go_wp2_with fail
 go_ret
 exact⟨Ah HE.out.symm,(((hx0.t hz1).t hz2).t hz3)⟩
theorem s_Min (a b:Int) (w:World) :
  Calls Tryz.prog 79 #[.int .i64 a,.int .i64 b] w fun e w'=>e=.returned (.int .i64 (if b<a then b else a))∧w=w':=by
 go_enter Tryz.func79,Tryz.ntmps79
 by_cases h:b<a
 ·
  go_wp2_with fail
  go_ret
  exact⟨ret_int (by first | rfl | simp [*]),rfl⟩
 go_wp2_with fail
 go_ret
 exact⟨ret_int (by first | rfl | simp [*]),rfl⟩
end
end Go.Proofs.YteodlcpeoaggbaaGreat
