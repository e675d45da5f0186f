/- What these laws need: FnOld: A book with a segment more. -/
import Derived.Test.YteodlcpeoaggbaaGreatKV31
namespace Go.Proofs.YteodlcpeoaggbaaGreat
section
open Go.ChangeShapes Go.WideShapes Go.ChangeAt Go.RowKit Go.Deep
theorem al4S (w:World) (o1 o2 o3 o4:Obj):((((w.alloc o1).alloc o2).alloc o3).alloc o4).heap[w.heap.size]?=some o1∧((((w.alloc o1).alloc o2).alloc o3).alloc o4).heap[w.heap.size+1]?=some o2∧((((w.alloc o1).alloc o2).alloc o3).alloc o4).heap[w.heap.size+1+1]?=some o3∧((((w.alloc o1).alloc o2).alloc o3).alloc o4).heap[w.heap.size+1+1+1]?=some o4:=by
 have h:=al3 w o1 o2 o3;refine⟨Aa ((Ab _).alloc o4) h.1,Aa ((Ab _).alloc o4) h.2.1,Aa ((Ab _).alloc o4) h.2.2,?_⟩;have h4:=blk_new (((w.alloc o1).alloc o2).alloc o3) o4
 simpa using h4
set_option maxRecDepth 100000 in
set_option maxHeartbeats 16000000 in
theorem s_AddSegment (t:Topo) (v1 v2:Value) (D C:List Seg) (vd vc:Value) (s:Seg) (v:Value) (n:Nat) (w:World) (ha:RdS ASd.rep w v1 t.ases) (hk:RdS Lnk.rep w v2 t.links) (rd:RdS Seg.rep w vd D) (rc:RdS Seg.rep w vc C) (rs:RdS Hop.rep w v s.hops) (hD:SegsBd n D) (hC:SegsBd n C) (hs:s.hops.length≤6) (hn:n≤900) :
  Calls Tryz.prog 125 #[.agg #[v1,v2],.agg #[vd,vc],.agg #[.int .i64 s.ts,.int .i64 s.beta,v]] w fun e w'=>∃ (vd' vc':Value) (D' C':List Seg),e=.returned (.agg #[vd',vc'])∧SegsBd (n+1) D'∧SegsBd (n+1) C'∧(Own.keep Seg.rep).own (rng w.heap.size w'.heap.size) w' vd' D'∧(Own.keep Seg.rep).own (rng w.heap.size w'.heap.size) w' vc' C'∧(0<D'.length→∃ b c,vd'=.slice (some ⟨b,0,none⟩) D'.length c∧w.heap.size≤b)∧Ext w w':=by
 obtain⟨E⟩:=elemSeg;obtain⟨o_d,c_d,rfl,_⟩:=rd.shape;obtain⟨o_c,c_c,rfl,_⟩:=rc.shape;obtain⟨o_s,c_s,rfl,_⟩:=rs.shape;have hx0:=(ext3 w (.cells #[v1,v2] 27) (.cells #[.slice o_d D.length c_d,.slice o_c C.length c_c] 108) (.cells #[.int .i64 s.ts,.int .i64 s.beta,.slice o_s s.hops.length c_s] 116)).alloc (.cells #[.slice none 0 0,.slice none 0 0] 108);have HB:=al4S w (.cells #[v1,v2] 27) (.cells #[.slice o_d D.length c_d,.slice o_c C.length c_c] 108) (.cells #[.int .i64 s.ts,.int .i64 s.beta,.slice o_s s.hops.length c_s] 116) (.cells #[.slice none 0 0,.slice none 0 0] 108)
 obtain⟨W4,hW4⟩:∃ W4:World,W4=((((w.alloc (.cells #[v1,v2] 27)).alloc (.cells #[.slice o_d D.length c_d,.slice o_c C.length c_c] 108)).alloc (.cells #[.int .i64 s.ts,.int .i64 s.beta,.slice o_s s.hops.length c_s] 116)).alloc (.cells #[.slice none 0 0,.slice none 0 0] 108)):=⟨_,rfl⟩
 have hs4:W4.heap.size=w.heap.size+1+1+1+1:=by rw [hW4];simp
 rw [← hW4] at hx0 HB
 go_enter Tryz.func125,Tryz.ntmps125
 go_upto_region 1 with (fail)
 rw [← hW4];clear hW4;have HS4:=Ac hs4;clear hs4;have cf1:=blk2 HB.1;have cf2:=blk2 HB.2.1;have cf3:=blk3 HB.2.2.1
 go_upto_region 1 with (fail)
 go_cut [7] (fun v7 wx=>∃ (B7:Nat) (oD oC:Option Addr) (cD cC m1 m2 m3 m4:Nat) (D1 C1:List Seg),v7=.pointer (some ⟨B7,0,none⟩)∧wx.heap[B7]?=some (.cells #[.slice oD D1.length cD,.slice oC C1.length cC] 108 (0,0))∧SegsBd n D1∧SegsBd n C1∧Seg.ownS.own (rng m1 m2) wx (.slice oD D1.length cD) D1∧Seg.ownS.own (rng m3 m4) wx (.slice oC C1.length cC) C1∧(W4.heap.size≤B7∧W4.heap.size≤m1∧m1≤m2∧m2≤m3∧m3≤m4∧m4≤wx.heap.size∧(B7<m1∨(m2≤B7∧B7<m3)∨m4≤B7))∧Ext W4 wx)
 case first=>
  refine Ax (.blk [0,1,3,4] (.two 2 7 (.two 5 7 (.blk [6] (.one 7 (.one 8 .done))) (.one 5 (.blk [6] (.one 8 .done)))) (.one 2 (.one 5 (.blk [6] (.one 8 .done)))))) [8] (by kernel_rfl) (by kernel_rfl) ?_;refine blkStep (fun K HK=>?_);simp only [PK]
  go_wp2_with fail
  refine HK.out _ _ ?_;clear HK K;refine twoStep ?_ ?_
  ·
   refine oneStep (fun K HK=>?_);simp only [PK]
   go_wp2_with fail
   refine(s_l16All D _ n _ (rd.ext (hx0.trans (Ab _).drew)) hD (by omega)).mono ?_;rintro e wk0 ⟨vD,D1,rfl,hD1,RD,hk0⟩;obtain⟨oD,cD,rfl,_⟩:=(Seg.ord RD).shape;have hcc1:=blk2 (Aa ((Ab _).trans ((Ab _).drew.trans hk0)) HB.1);have hcc2:=blk2 (Aa ((Ab _).trans ((Ab _).drew.trans hk0)) HB.2.1);have hcc3:=blk3 (Aa ((Ab _).trans ((Ab _).drew.trans hk0)) HB.2.2.1)
   go_wp2_with fail
   refine HK.out _ _ hk0 ?_;clear HK K;refine twoStep ?_ ?_
   ·
    refine oneStep (fun K HK=>?_);simp only [PK]
    go_wp2_with fail
    refine(s_l16All C _ n _ (rc.ext (hx0.trans ((Ab _).drew.trans hk0))) hC (by omega)).mono ?_;rintro e wk1 ⟨vC,C1,rfl,hC1,RC,hk1⟩;obtain⟨oC,cC,rfl,_⟩:=(Seg.ord RC).shape;have hcc4:=blk2 (Aa ((Ab _).trans (((Ab _).drew.trans hk0).trans hk1)) HB.1);have hcc5:=blk2 (Aa ((Ab _).trans (((Ab _).drew.trans hk0).trans hk1)) HB.2.1);have hcc6:=blk3 (Aa ((Ab _).trans (((Ab _).drew.trans hk0).trans hk1)) HB.2.2.1)
    go_wp2_with fail
    refine HK.out _ _ hk1 ?_;clear HK K;refine blkStep (fun K HK=>?_);simp only [PK]
    go_wp2_with fail
    refine HK.out _ _ ?_;clear HK K;refine oneStep (fun K HK=>?_);simp only [PK]
    go_wp2_with fail
    refine HK.out _ _ ((Ab _).alloc _) ?_;clear HK K;refine badStep (by kernel_rfl) (fun K HK=>?_);simp only [PK]
    go_wp2_with fail
    refine HK.out _ _ ?_;clear HK K;refine Ap (by kernel_rfl) ?_
    go_wp2_with fail
    go_meet
    have zd:W4.drew.heap.size=W4.heap.size:=rfl;have z0:=hk0.size;have z1:=hk1.size
    (try simp only [nblk_alloc] at z0)
    (try simp only [nblk_alloc] at z1)
    exact⟨_,oD,oC,cD,cC,_,_,_,_,D1,C1,rfl,blk_new _ _,hD1,hC1,Aj RD (hk1.alloc _),Aj RC ((Ab _).alloc _),⟨(by first | omega | (simp only [nblk_alloc];omega)),(by first | omega | (simp only [nblk_alloc];omega)),(by first | omega | (simp only [nblk_alloc];omega)),(by first | omega | (simp only [nblk_alloc];omega)),(by first | omega | (simp only [nblk_alloc];omega)),(by first | omega | (simp only [nblk_alloc];omega)),.inr (.inr (Ae _))⟩,(((Ab _).drew.trans hk0).trans hk1).alloc _⟩
   have hba:=blk_new wk0 (.cells #[.slice none 0 0,.slice none 0 0] 108);have HBA:=Ac hba;clear hba;refine oneStep (fun K HK=>?_);simp only [PK]
   go_wp2_with fail
   refine HK.out _ _ ((Ab _).alloc _) ?_;clear HK K;refine oneStep (fun K HK=>?_);simp only [PK]
   go_wp2_with fail
   refine(s_l16All C _ n _ (rc.ext (hx0.trans (((Ab _).drew.trans hk0).trans ((Ab _).alloc _)))) hC (by omega)).mono ?_;rintro e wk1 ⟨vC,C1,rfl,hC1,RC,hk1⟩;obtain⟨oC,cC,rfl,_⟩:=(Seg.ord RC).shape;have hcc7:=blk2 (Aa ((Ab _).trans ((((Ab _).drew.trans hk0).trans ((Ab _).alloc _)).trans hk1)) HB.1);have hcc8:=blk2 (Aa ((Ab _).trans ((((Ab _).drew.trans hk0).trans ((Ab _).alloc _)).trans hk1)) HB.2.1);have hcc9:=blk3 (Aa ((Ab _).trans ((((Ab _).drew.trans hk0).trans ((Ab _).alloc _)).trans hk1)) HB.2.2.1)
   go_wp2_with fail
   refine HK.out _ _ hk1 ?_;clear HK K;refine blkStep (fun K HK=>?_);simp only [PK]
   go_wp2_with fail
   refine HK.out _ _ ?_;clear HK K;have hbs:=Aa hk1 HBA.out;have hcs:=blk2 hbs;have hfs0:=fr2 hbs;have HBS:=Ac hbs;clear hbs;refine badStep (by kernel_rfl) (fun K HK=>?_);simp only [PK]
   go_wp2_with fail
   refine HK.out _ _ ?_;clear HK K;refine Ap (by kernel_rfl) ?_
   go_wp2_with fail
   go_meet
   have zd:W4.drew.heap.size=W4.heap.size:=rfl;have z0:=hk0.size;have z1:=hk1.size
   (try simp only [nblk_alloc] at z0)
   (try simp only [nblk_alloc] at z1)
   obtain⟨wq,hwq,hbq,hcq⟩:=two_set HBS.out (.slice oD D1.length cD) (.slice oC C1.length cC);rw [← hwq];have zq:=hcq.size;exact⟨_,oD,oC,cD,cC,_,_,_,_,D1,C1,rfl,hbq,hD1,hC1,Own.kept _ (Aj RD (((Ab _).alloc _).trans hk1)) hcq (fun b hb e=>by have h1:=hb.1;have h2:=hb.2;have h3:b=_:=e;rw [h3] at h1 h2;(try simp only [nblk_alloc] at h1);(try simp only [nblk_alloc] at h2);omega),Own.kept _ (Aj RC (Ab _)) hcq (fun b hb e=>by have h1:=hb.1;have h2:=hb.2;have h3:b=_:=e;rw [h3] at h1 h2;(try simp only [nblk_alloc] at h1);(try simp only [nblk_alloc] at h2);omega),⟨(by first | omega | (simp only [nblk_alloc];omega)),(by first | omega | (simp only [nblk_alloc];omega)),(by first | omega | (simp only [nblk_alloc];omega)),(by first | omega | (simp only [nblk_alloc];omega)),(by first | omega | (simp only [nblk_alloc];omega)),hcq.size,.inr (.inl ⟨(by first | omega | (simp only [nblk_alloc];omega)),(by first | omega | (simp only [nblk_alloc];omega))⟩)⟩,((((Ab _).drew.trans hk0).trans ((Ab _).alloc _)).trans hk1).chg hcq (fun i hi=>by have h3:i=_:=hi;rw [h3];omega)⟩
  have hba:=blk_new W4 (.cells #[.slice none 0 0,.slice none 0 0] 108);have HBA:=Ac hba;clear hba;refine oneStep (fun K HK=>?_);simp only [PK]
  go_wp2_with fail
  refine HK.out _ _ ((Ab _).alloc _) ?_;clear HK K;refine oneStep (fun K HK=>?_);simp only [PK]
  go_wp2_with fail
  refine(s_l16All D _ n _ (rd.ext (hx0.trans ((Ab _).drew.t ((Ab _).alloc _)))) hD (by omega)).mono ?_;rintro e wk0 ⟨vD,D1,rfl,hD1,RD,hk0⟩;obtain⟨oD,cD,rfl,_⟩:=(Seg.ord RD).shape;have hcc10:=blk2 (Aa ((Ab _).trans (((Ab _).drew.t ((Ab _).alloc _)).trans hk0)) HB.1);have hcc11:=blk2 (Aa ((Ab _).trans (((Ab _).drew.t ((Ab _).alloc _)).trans hk0)) HB.2.1);have hcc12:=blk3 (Aa ((Ab _).trans (((Ab _).drew.t ((Ab _).alloc _)).trans hk0)) HB.2.2.1)
  go_wp2_with fail
  refine HK.out _ _ hk0 ?_;clear HK K;refine oneStep (fun K HK=>?_);simp only [PK]
  go_wp2_with fail
  refine(s_l16All C _ n _ (rc.ext (hx0.trans (((Ab _).drew.t ((Ab _).alloc _)).trans hk0))) hC (by omega)).mono ?_;rintro e wk1 ⟨vC,C1,rfl,hC1,RC,hk1⟩;obtain⟨oC,cC,rfl,_⟩:=(Seg.ord RC).shape;have hcc13:=blk2 (Aa ((Ab _).trans ((((Ab _).drew.t ((Ab _).alloc _)).trans hk0).trans hk1)) HB.1);have hcc14:=blk2 (Aa ((Ab _).trans ((((Ab _).drew.t ((Ab _).alloc _)).trans hk0).trans hk1)) HB.2.1);have hcc15:=blk3 (Aa ((Ab _).trans ((((Ab _).drew.t ((Ab _).alloc _)).trans hk0).trans hk1)) HB.2.2.1)
  go_wp2_with fail
  refine HK.out _ _ hk1 ?_;clear HK K;refine blkStep (fun K HK=>?_);simp only [PK]
  go_wp2_with fail
  refine HK.out _ _ ?_;clear HK K;have hbs:=Aa (hk0.trans hk1) HBA.out;have hcs:=blk2 hbs;have hfs0:=fr2 hbs;have HBS:=Ac hbs;clear hbs;refine badStep (by kernel_rfl) (fun K HK=>?_);simp only [PK]
  go_wp2_with fail
  refine HK.out _ _ ?_;clear HK K;refine Ap (by kernel_rfl) ?_
  go_wp2_with fail
  go_meet
  have zd:W4.drew.heap.size=W4.heap.size:=rfl;have z0:=hk0.size;have z1:=hk1.size
  (try simp only [nblk_alloc] at z0)
  (try simp only [nblk_alloc] at z1)
  obtain⟨wq,hwq,hbq,hcq⟩:=two_set HBS.out (.slice oD D1.length cD) (.slice oC C1.length cC);rw [← hwq];have zq:=hcq.size;exact⟨_,oD,oC,cD,cC,_,_,_,_,D1,C1,rfl,hbq,hD1,hC1,Own.kept _ (Aj RD hk1) hcq (fun b hb e=>by have h1:=hb.1;have h2:=hb.2;have h3:b=_:=e;rw [h3] at h1 h2;(try simp only [nblk_alloc] at h1);(try simp only [nblk_alloc] at h2);omega),Own.kept _ (Aj RC (Ab _)) hcq (fun b hb e=>by have h1:=hb.1;have h2:=hb.2;have h3:b=_:=e;rw [h3] at h1 h2;(try simp only [nblk_alloc] at h1);(try simp only [nblk_alloc] at h2);omega),⟨(by first | omega | (simp only [nblk_alloc];omega)),(by first | omega | (simp only [nblk_alloc];omega)),(by first | omega | (simp only [nblk_alloc];omega)),(by first | omega | (simp only [nblk_alloc];omega)),(by first | omega | (simp only [nblk_alloc];omega)),hcq.size,.inl (by first | omega | (simp only [nblk_alloc];omega))⟩,((((Ab _).drew.t ((Ab _).alloc _)).trans hk0).trans hk1).chg hcq (fun i hi=>by have h3:i=_:=hi;rw [h3];omega)⟩
 case rest=>
  obtain⟨B7,oD,oC,cD,cC,m1,m2,m3,m4,D1,C1,rfl,hb7,hD1,hC1,RD,RC,⟨y1,y2,y3,y4,y5,y6,y7⟩,hxc⟩:=hcut;have HY:=Ac (⟨y1,y2,y3,y4,y5,y6,y7⟩:W4.heap.size≤B7∧W4.heap.size≤m1∧m1≤m2∧m2≤m3∧m3≤m4∧m4≤wc.heap.size∧(B7<m1∨(m2≤B7∧B7<m3)∨m4≤B7));clear y1 y2 y3 y4 y5 y6 y7;have cf4:=blk2 (Aa hxc HB.1);have cf5:=blk2 (Aa hxc HB.2.1);have cf6:=blk3 (Aa hxc HB.2.2.1);have cf7:=blk2 hb7
  go_wp2_with fail
  refine(s_ValidSegment t _ _ s _ _ (ha.ext (hx0.t hxc)) (hk.ext (hx0.t hxc)) (rs.ext (hx0.t hxc)) (by omega)).mono ?_;rintro e w1 ⟨rfl,hz1⟩;generalize validSeg t s=q1
  cases q1
  case false=>
   try clear cf4
   try clear cf5
   try clear cf6
   try clear cf7
   have hE:=((hx0.t hxc).t hz1)
   have hB7:=Aa hz1 hb7;have HZ:=Ac (Ext.size hz1);have RD2:=Aj RD hz1;have RC2:=Aj RC hz1
   have hx4:=(hxc.t hz1)
   have HSD : Hid (0 < D1.length → ∃ b c, (.slice oD D1.length cD : Value) = .slice (some ⟨b, 0, none⟩) D1.length c ∧ w.heap.size ≤ b) := Ac ((fun h => by
    have h8 := RD2; unfold Seg.ownS at h8; obtain ⟨b9, c9, e9, h9, _⟩ := nest_shape h8 h
    exact ⟨b9, c9, e9, by have hy := HY.out; have h4 := HS4.out; have h1 := h9.1; omega⟩))
   have hbr:=Aa (hx4) HB.2.2.2;obtain⟨wq9,hwq9,hbq9,hcq9⟩:=two_set hbr (.slice oD D1.length cD) (.slice oC C1.length cC);have HQ:=Ac (⟨(by have hy:=HY.out;have h4:=HS4.out;have hz:=hcq9.size;exact Be (Own.mono Seg.ownS (Own.kept _ RD2 hcq9 (fun b hb e=>by have h1:=hb.1;have h3:b=w.heap.size+1+1+1:=e;omega)) (fun q hq=>⟨by have h1:=hq.1;omega,by have h2:=hq.2;have h5:=HZ.out;omega⟩))),(by have hy:=HY.out;have h4:=HS4.out;have hz:=hcq9.size;exact Be (Own.mono Seg.ownS (Own.kept _ RC2 hcq9 (fun b hb e=>by have h1:=hb.1;have h3:b=w.heap.size+1+1+1:=e;omega)) (fun q hq=>⟨by have h1:=hq.1;omega,by have h2:=hq.2;have h5:=HZ.out;omega⟩))),Ext.chg hE hcq9 (fun i hi=>by have h3:i=w.heap.size+1+1+1:=hi;omega)⟩:(Own.keep Seg.rep).own (rng w.heap.size wq9.heap.size) wq9 (.slice oD D1.length cD) D1∧(Own.keep Seg.rep).own (rng w.heap.size wq9.heap.size) wq9 (.slice oC C1.length cC) C1∧Ext w wq9);have HWQ9:=Ac hwq9;have HBQ9:=Ac hbq9;have cp9:=blk2 hB7;have cr9:=blk2 hbr;have fr9:=fr_of hbr 0;have fr8:=fr_of hbr 1;clear hwq9 hbq9 hcq9 hbr
   go_wp2_with fail
   rw [← HWQ9.out];have cc9:=blk2 HBQ9.out;clear cp9 cr9 fr9 fr8;refine bodyPost_ret (by simp [results,Tryz.results125,go_sem,cc9] <;> rfl) rfl ?_;exact⟨_,_,D1,C1,rfl,hD1.mono (Nat.le_succ _),hC1.mono (Nat.le_succ _),HQ.out.1,HQ.out.2.1,HSD.out,HQ.out.2.2⟩
  case true=>
   try clear cf4
   try clear cf5
   try clear cf6
   try clear cf7
   have cf8:=blk2 (Aa (hxc.t hz1) HB.1);have cf9:=blk2 (Aa (hxc.t hz1) HB.2.1);have cf10:=blk3 (Aa (hxc.t hz1) HB.2.2.1);have cf11:=blk2 (Aa hz1 hb7)
   go_wp2_with fail
   refine(s_IsTerminated s _ _ (rs.ext ((hx0.t hxc).t hz1))).mono ?_;rintro e w2 ⟨rfl,hz2⟩;generalize isTerm s=q2
   cases q2
   case false=>
    try clear cf8
    try clear cf9
    try clear cf10
    try clear cf11
    have hE:=(((hx0.t hxc).t hz1).t hz2)
    have hB7:=Aa (hz1.t hz2) hb7;have HZ:=Ac (Ext.size (hz1.t hz2));have RD2:=Aj RD (hz1.t hz2);have RC2:=Aj RC (hz1.t hz2)
    have hx4:=((hxc.t hz1).t hz2)
    have HSD : Hid (0 < D1.length → ∃ b c, (.slice oD D1.length cD : Value) = .slice (some ⟨b, 0, none⟩) D1.length c ∧ w.heap.size ≤ b) := Ac ((fun h => by
     have h8 := RD2; unfold Seg.ownS at h8; obtain ⟨b9, c9, e9, h9, _⟩ := nest_shape h8 h
     exact ⟨b9, c9, e9, by have hy := HY.out; have h4 := HS4.out; have h1 := h9.1; omega⟩))
    have hbr:=Aa (hx4) HB.2.2.2;obtain⟨wq9,hwq9,hbq9,hcq9⟩:=two_set hbr (.slice oD D1.length cD) (.slice oC C1.length cC);have HQ:=Ac (⟨(by have hy:=HY.out;have h4:=HS4.out;have hz:=hcq9.size;exact Be (Own.mono Seg.ownS (Own.kept _ RD2 hcq9 (fun b hb e=>by have h1:=hb.1;have h3:b=w.heap.size+1+1+1:=e;omega)) (fun q hq=>⟨by have h1:=hq.1;omega,by have h2:=hq.2;have h5:=HZ.out;omega⟩))),(by have hy:=HY.out;have h4:=HS4.out;have hz:=hcq9.size;exact Be (Own.mono Seg.ownS (Own.kept _ RC2 hcq9 (fun b hb e=>by have h1:=hb.1;have h3:b=w.heap.size+1+1+1:=e;omega)) (fun q hq=>⟨by have h1:=hq.1;omega,by have h2:=hq.2;have h5:=HZ.out;omega⟩))),Ext.chg hE hcq9 (fun i hi=>by have h3:i=w.heap.size+1+1+1:=hi;omega)⟩:(Own.keep Seg.rep).own (rng w.heap.size wq9.heap.size) wq9 (.slice oD D1.length cD) D1∧(Own.keep Seg.rep).own (rng w.heap.size wq9.heap.size) wq9 (.slice oC C1.length cC) C1∧Ext w wq9);have HWQ9:=Ac hwq9;have HBQ9:=Ac hbq9;have cp9:=blk2 hB7;have cr9:=blk2 hbr;have fr9:=fr_of hbr 0;have fr8:=fr_of hbr 1;clear hwq9 hbq9 hcq9 hbr
    go_wp2_with fail
    rw [← HWQ9.out];have cc9:=blk2 HBQ9.out;clear cp9 cr9 fr9 fr8;refine bodyPost_ret (by simp [results,Tryz.results125,go_sem,cc9] <;> rfl) rfl ?_;exact⟨_,_,D1,C1,rfl,hD1.mono (Nat.le_succ _),hC1.mono (Nat.le_succ _),HQ.out.1,HQ.out.2.1,HSD.out,HQ.out.2.2⟩
   case true=>
    try clear cf8
    try clear cf9
    try clear cf10
    try clear cf11
    have cf12:=blk2 (Aa ((hxc.t hz1).t hz2) HB.1);have cf13:=blk2 (Aa ((hxc.t hz1).t hz2) HB.2.1);have cf14:=blk3 (Aa ((hxc.t hz1).t hz2) HB.2.2.1);have cf15:=blk2 (Aa (hz1.t hz2) hb7)
    go_wp2_with fail
    refine(s_HasSegment D C _ _ s _ _ (rd.ext (((hx0.t hxc).t hz1).t hz2)) (rc.ext (((hx0.t hxc).t hz1).t hz2)) (rs.ext (((hx0.t hxc).t hz1).t hz2))).mono ?_;rintro e w3 ⟨q3,rfl,hz3⟩
    cases q3
    case false=>
     try clear cf12
     try clear cf13
     try clear cf14
     try clear cf15
     have cf16:=blk2 (Aa (((hxc.t hz1).t hz2).t hz3) HB.1);have cf17:=blk2 (Aa (((hxc.t hz1).t hz2).t hz3) HB.2.1);have cf18:=blk3 (Aa (((hxc.t hz1).t hz2).t hz3) HB.2.2.1);have cf19:=blk2 (Aa ((hz1.t hz2).t hz3) hb7)
     go_wp2_with fail
     refine(s_SegmentKind t _ _ s _ _ (ha.ext ((((hx0.t hxc).t hz1).t hz2).t hz3)) (hk.ext ((((hx0.t hxc).t hz1).t hz2).t hz3)) (rs.ext ((((hx0.t hxc).t hz1).t hz2).t hz3)) (by omega)).mono ?_;rintro e w4 ⟨rfl,hz4⟩
     cases hsk:(segKind t s == 2)
     ·
      try clear cf16
      try clear cf17
      try clear cf18
      try clear cf19
      have cf20:=blk2 (Aa ((((hxc.t hz1).t hz2).t hz3).t hz4) HB.1);have cf21:=blk2 (Aa ((((hxc.t hz1).t hz2).t hz3).t hz4) HB.2.1);have cf22:=blk3 (Aa ((((hxc.t hz1).t hz2).t hz3).t hz4) HB.2.2.1);have cf23:=blk2 (Aa (((hz1.t hz2).t hz3).t hz4) hb7)
      go_upto_region 6 with (fail)
      refine Ax (.blk [0,1,2] (.one 3 (.one 4 (.one 5 (.blk [6] (.one 7 .done)))))) [5,7] (by kernel_rfl) (by kernel_rfl) ?_
      try clear cf20
      try clear cf21
      try clear cf22
      try clear cf23
      have cf24:=blk2 (Aa (((((hxc.t hz1).t hz2).t hz3).t hz4).t ((Ab _).drew)) HB.1);have cf25:=blk2 (Aa (((((hxc.t hz1).t hz2).t hz3).t hz4).t ((Ab _).drew)) HB.2.1);have cf26:=blk3 (Aa (((((hxc.t hz1).t hz2).t hz3).t hz4).t ((Ab _).drew)) HB.2.2.1);have cf27:=blk2 (Aa ((((hz1.t hz2).t hz3).t hz4).t ((Ab _).drew)) hb7);refine blkStep (fun K HK=>?_);simp only [PK]
      go_wp2_with fail
      refine HK.out _ _ ?_;clear HK K;refine oneStep (fun K HK=>?_);simp only [PK]
      go_wp2_with fail
      refine(s_l9Copy s _ _ (rs.ext ((((((hx0.t hxc).t hz1).t hz2).t hz3).t hz4).t ((Ab _).drew))) (by omega)).mono ?_;rintro e w5 ⟨u,rfl,ou,hz5⟩;obtain⟨oo,co,rfl,_⟩:=(Bb (hf:=Ao) ou).shape
      try clear cf24
      try clear cf25
      try clear cf26
      try clear cf27
      have cf28:=blk2 (Aa ((((((hxc.t hz1).t hz2).t hz3).t hz4).t ((Ab _).drew)).t hz5) HB.1);have cf29:=blk2 (Aa ((((((hxc.t hz1).t hz2).t hz3).t hz4).t ((Ab _).drew)).t hz5) HB.2.1);have cf30:=blk3 (Aa ((((((hxc.t hz1).t hz2).t hz3).t hz4).t ((Ab _).drew)).t hz5) HB.2.2.1);have cf31:=blk2 (Aa (((((hz1.t hz2).t hz3).t hz4).t ((Ab _).drew)).t hz5) hb7)
      go_wp2_with fail
      refine HK.out _ _ hz5 ?_;clear HK K
      try clear cf28
      try clear cf29
      try clear cf30
      try clear cf31
      refine oneStep (fun K HK=>?_);simp only [PK]
      go_wp2_with fail
      refine HK.out _ _ ((Ab _).alloc _) ?_;clear HK K;have HX0:=Ac ((((((hx0.t hxc).t hz1).t hz2).t hz3).t hz4).t ((Ab _).drew));have HXA:=Ac (Ext.alloc hz5 (.cells #[.int .i64 s.ts,.int .i64 s.beta,.slice oo s.hops.length co] 116));have HZ0:=Ac (Ext.size ((((hz1.t hz2).t hz3).t hz4).t ((Ab _).drew)));have hRw:=Aj RC ((((hz1.t hz2).t hz3).t hz4).t ((Ab _).drew));have hQw:=Aj RD (((((hz1.t hz2).t hz3).t hz4).t ((Ab _).drew)).trans (hz5.alloc (.cells #[.int .i64 s.ts,.int .i64 s.beta,.slice oo s.hops.length co] 116)));have hBw:=Aa (((((hz1.t hz2).t hz3).t hz4).t ((Ab _).drew)).trans (hz5.alloc (.cells #[.int .i64 s.ts,.int .i64 s.beta,.slice oo s.hops.length co] 116))) hb7;have hLl:=hC1.1;refine badStep (by kernel_rfl) (fun K HK=>?_);simp only [PK];refine appG (w0:=w4.drew) (c:=Seg.c) (hc:=Seg.clen) (sub:=(·.hops)) (I:=Own.flat Hop.f 5 Ao 103) (S:=rng m3 m4) E rfl _ _ rfl s (.slice oo s.hops.length co) (rng w4.drew.heap.size w5.heap.size) (seg_oneC _ _ _ _) rfl hRw (hz5.alloc _) (Aj (O:=Own.flat Hop.f 5 Ao 103) (Own.ofF (hf:=Ao) ou) ((Ab _).alloc _)) (fun q hq=>⟨hq.1,by have h2:=hq.2;simp;omega⟩) rfl (by exact Au (Seg.c s (.slice oo s.hops.length co)) (blk_new w5 _)) (by omega) (by unfold maxLen;omega) ?_;intro v' w' ho' hg' hvS
      have hcg:=Bn (S:=rng m3 m4) hg' (fun q hq=>hvS q hq);have hQ2:=Own.kept _ hQw hcg (fun b hb e=>by have hy:=HY.out;have h1:=hb.1;have h2:=hb.2;have h3:=e.1;have h4:=e.2;omega);have hB2:=hcg.blkS hBw (fun e=>by have hy:=HY.out;have h3:=e.1;have h4:=e.2;omega);have hx':=(HX0.out.trans HXA.out).grown hg' (fun q hq=>by have h1:=(hvS q hq).1;have hy:=HY.out;have h4:=HS4.out;omega);have hx4':Ext W4 w':=(((((((hxc.t hz1).t hz2).t hz3).t hz4).t ((Ab _).drew))).trans HXA.out).grown hg' (fun q hq=>by have h1:=(hvS q hq).1;have hy:=HY.out;omega);have hzg:=hg'.size;have HZA:=Ac (Ext.size HXA.out);clear hcg hg' hvS hRw hQw hBw ou
      go_wp2_with fail
      refine HK.out _ _ ?_;clear HK K;obtain⟨oN,cN,rfl⟩:∃ oN cN,v'=.slice oN (C1.length+1) cN:=by obtain⟨o',c',h,_⟩:=(Seg.ord ho').shape;exact⟨o',c',by rw [h];simp⟩
      refine blkStep (fun K HK=>?_);simp only [PK]
      go_wp2_with fail
      refine HK.out _ _ ?_;clear HK K;obtain⟨wp8,hwp8,hbp8,hcp8⟩:=one_set hB2 1 (.slice oN (C1.length+1) cN);simp only [List.setIfInBounds_toArray] at hbp8;have hR8:=Own.kept _ ho' hcp8 (fun b hb e=>by have hy:=HY.out;have h3:b=B7:=e;have h5:=HZ0.out;have h6:=blk_lt hb7;rcases hb with ⟨h1,h2⟩ | ⟨h1,h2⟩ <;> omega);have hQ8:=Own.kept _ hQ2 hcp8 (fun b hb e=>by have hy:=HY.out;have h3:b=B7:=e;have h1:=hb.1;have h2:=hb.2;omega);have hx8:=hx'.chg hcp8 (fun i hi=>by have h3:i=B7:=hi;have hy:=HY.out;have h4:=HS4.out;omega);have hx48:=hx4'.chg hcp8 (fun i hi=>by have h3:i=B7:=hi;have hy:=HY.out;omega);have hz8:=hcp8.size;have HZ:=Ac (by have h1:=HZ0.out;have h2:=HZA.out;omega:wc.heap.size≤wp8.heap.size);have HW8:=Ac hwp8;have cp8:=blk2 hB2;have fp8:=fr_of hB2 1;clear hwp8 hcp8 ho' hQ2 hB2 hx' hx4';refine badStep (by kernel_rfl) (fun K HK=>?_);simp only [PK]
      go_wp2_with fail
      refine HK.out _ _ ?_;clear HK K cp8 fp8;refine Ap (by kernel_rfl) ?_;rw [← HW8.out];have HZC:=Ac (Ext.size (((((hxc.t hz1).t hz2).t hz3).t hz4).t ((Ab _).drew)))
      have HSD : Hid (0 < D1.length → ∃ b c, (.slice oD D1.length cD : Value) = .slice (some ⟨b, 0, none⟩) D1.length c ∧ w.heap.size ≤ b) := Ac ((fun h => by
       have h8 := hQ8; unfold Seg.ownS at h8; obtain ⟨b9, c9, e9, h9, _⟩ := nest_shape h8 h
       exact ⟨b9, c9, e9, by have hy := HY.out; have h4 := HS4.out; have h1 := h9.1; omega⟩))
      have hbr:=Aa (hx48) HB.2.2.2;obtain⟨wq9,hwq9,hbq9,hcq9⟩:=two_set hbr (.slice oD D1.length cD) (.slice oN (C1.length+1) cN);have HQ:=Ac (⟨(by have hy:=HY.out;have h4:=HS4.out;have hz:=hcq9.size;exact Be (Own.mono Seg.ownS (Own.kept _ hQ8 hcq9 (fun b hb e=>by have h1:=hb.1;have h3:b=w.heap.size+1+1+1:=e;omega)) (fun q hq=>⟨by have h1:=hq.1;omega,by have h2:=hq.2;have h5:=HZ.out;omega⟩))),(by have hy:=HY.out;have h4:=HS4.out;have hz:=hcq9.size;have h6:=HZ0.out;exact Be (Own.mono Seg.ownS (Own.kept _ hR8 hcq9 (fun b hb e=>by have h3:b=w.heap.size+1+1+1:=e;have h7:=HZC.out;rcases hb with ⟨h1,h2⟩ | ⟨h1,h2⟩ <;> omega)) (fun q hq=>⟨by have h7:=HZC.out;rcases hq with ⟨h1,h2⟩ | ⟨h1,h2⟩ <;> omega,by have h5:=HZ.out;rcases hq with ⟨h1,h2⟩ | ⟨h1,h2⟩ <;> omega⟩))),Ext.chg hx8 hcq9 (fun i hi=>by have h3:i=w.heap.size+1+1+1:=hi;omega)⟩:(Own.keep Seg.rep).own (rng w.heap.size wq9.heap.size) wq9 (.slice oD D1.length cD) D1∧(Own.keep Seg.rep).own (rng w.heap.size wq9.heap.size) wq9 (.slice oN (C1.length+1) cN) (C1 ++ [s])∧Ext w wq9);have HWQ9:=Ac hwq9;have HBQ9:=Ac hbq9;have cp9:=blk2 hbp8;have cr9:=blk2 hbr;have fr9:=fr_of hbr 0;have fr8:=fr_of hbr 1;clear hwq9 hbq9 hcq9 hbr
      go_wp2_with fail
      rw [← HWQ9.out];have cc9:=blk2 HBQ9.out;clear cp9 cr9 fr9 fr8;refine bodyPost_ret (by simp [results,Tryz.results125,go_sem,cc9] <;> rfl) rfl ?_;exact⟨_,_,D1,(C1 ++ [s]),rfl,hD1.mono (Nat.le_succ _),hC1.snoc hs,HQ.out.1,HQ.out.2.1,HSD.out,HQ.out.2.2⟩
     try clear cf16
     try clear cf17
     try clear cf18
     try clear cf19
     have cf32:=blk2 (Aa ((((hxc.t hz1).t hz2).t hz3).t hz4) HB.1);have cf33:=blk2 (Aa ((((hxc.t hz1).t hz2).t hz3).t hz4) HB.2.1);have cf34:=blk3 (Aa ((((hxc.t hz1).t hz2).t hz3).t hz4) HB.2.2.1);have cf35:=blk2 (Aa (((hz1.t hz2).t hz3).t hz4) hb7)
     go_upto_region 5 with (fail)
     refine Ax (.blk [0,1,2] (.one 3 (.one 4 (.one 5 (.blk [6] (.one 7 .done)))))) [5,7] (by kernel_rfl) (by kernel_rfl) ?_
     try clear cf32
     try clear cf33
     try clear cf34
     try clear cf35
     have cf36:=blk2 (Aa (((((hxc.t hz1).t hz2).t hz3).t hz4).t ((Ab _).drew)) HB.1);have cf37:=blk2 (Aa (((((hxc.t hz1).t hz2).t hz3).t hz4).t ((Ab _).drew)) HB.2.1);have cf38:=blk3 (Aa (((((hxc.t hz1).t hz2).t hz3).t hz4).t ((Ab _).drew)) HB.2.2.1);have cf39:=blk2 (Aa ((((hz1.t hz2).t hz3).t hz4).t ((Ab _).drew)) hb7);refine blkStep (fun K HK=>?_);simp only [PK]
     go_wp2_with fail
     refine HK.out _ _ ?_;clear HK K;refine oneStep (fun K HK=>?_);simp only [PK]
     go_wp2_with fail
     refine(s_l9Copy s _ _ (rs.ext ((((((hx0.t hxc).t hz1).t hz2).t hz3).t hz4).t ((Ab _).drew))) (by omega)).mono ?_;rintro e w6 ⟨u,rfl,ou,hz6⟩;obtain⟨oo,co,rfl,_⟩:=(Bb (hf:=Ao) ou).shape
     try clear cf36
     try clear cf37
     try clear cf38
     try clear cf39
     have cf40:=blk2 (Aa ((((((hxc.t hz1).t hz2).t hz3).t hz4).t ((Ab _).drew)).t hz6) HB.1);have cf41:=blk2 (Aa ((((((hxc.t hz1).t hz2).t hz3).t hz4).t ((Ab _).drew)).t hz6) HB.2.1);have cf42:=blk3 (Aa ((((((hxc.t hz1).t hz2).t hz3).t hz4).t ((Ab _).drew)).t hz6) HB.2.2.1);have cf43:=blk2 (Aa (((((hz1.t hz2).t hz3).t hz4).t ((Ab _).drew)).t hz6) hb7)
     go_wp2_with fail
     refine HK.out _ _ hz6 ?_;clear HK K
     try clear cf40
     try clear cf41
     try clear cf42
     try clear cf43
     refine oneStep (fun K HK=>?_);simp only [PK]
     go_wp2_with fail
     refine HK.out _ _ ((Ab _).alloc _) ?_;clear HK K;have HX0:=Ac ((((((hx0.t hxc).t hz1).t hz2).t hz3).t hz4).t ((Ab _).drew));have HXA:=Ac (Ext.alloc hz6 (.cells #[.int .i64 s.ts,.int .i64 s.beta,.slice oo s.hops.length co] 116));have HZ0:=Ac (Ext.size ((((hz1.t hz2).t hz3).t hz4).t ((Ab _).drew)));have hRw:=Aj RD ((((hz1.t hz2).t hz3).t hz4).t ((Ab _).drew));have hQw:=Aj RC (((((hz1.t hz2).t hz3).t hz4).t ((Ab _).drew)).trans (hz6.alloc (.cells #[.int .i64 s.ts,.int .i64 s.beta,.slice oo s.hops.length co] 116)));have hBw:=Aa (((((hz1.t hz2).t hz3).t hz4).t ((Ab _).drew)).trans (hz6.alloc (.cells #[.int .i64 s.ts,.int .i64 s.beta,.slice oo s.hops.length co] 116))) hb7;have hLl:=hD1.1;refine badStep (by kernel_rfl) (fun K HK=>?_);simp only [PK];refine appG (w0:=w4.drew) (c:=Seg.c) (hc:=Seg.clen) (sub:=(·.hops)) (I:=Own.flat Hop.f 5 Ao 103) (S:=rng m1 m2) E rfl _ _ rfl s (.slice oo s.hops.length co) (rng w4.drew.heap.size w6.heap.size) (seg_oneC _ _ _ _) rfl hRw (hz6.alloc _) (Aj (O:=Own.flat Hop.f 5 Ao 103) (Own.ofF (hf:=Ao) ou) ((Ab _).alloc _)) (fun q hq=>⟨hq.1,by have h2:=hq.2;simp;omega⟩) rfl (by exact Au (Seg.c s (.slice oo s.hops.length co)) (blk_new w6 _)) (by omega) (by unfold maxLen;omega) ?_;intro v' w' ho' hg' hvS
     have hcg:=Bn (S:=rng m1 m2) hg' (fun q hq=>hvS q hq);have hQ2:=Own.kept _ hQw hcg (fun b hb e=>by have hy:=HY.out;have h1:=hb.1;have h2:=hb.2;have h3:=e.1;have h4:=e.2;omega);have hB2:=hcg.blkS hBw (fun e=>by have hy:=HY.out;have h3:=e.1;have h4:=e.2;omega);have hx':=(HX0.out.trans HXA.out).grown hg' (fun q hq=>by have h1:=(hvS q hq).1;have hy:=HY.out;have h4:=HS4.out;omega);have hx4':Ext W4 w':=(((((((hxc.t hz1).t hz2).t hz3).t hz4).t ((Ab _).drew))).trans HXA.out).grown hg' (fun q hq=>by have h1:=(hvS q hq).1;have hy:=HY.out;omega);have hzg:=hg'.size;have HZA:=Ac (Ext.size HXA.out);clear hcg hg' hvS hRw hQw hBw ou
     go_wp2_with fail
     refine HK.out _ _ ?_;clear HK K;obtain⟨oN,cN,rfl⟩:∃ oN cN,v'=.slice oN (D1.length+1) cN:=by obtain⟨o',c',h,_⟩:=(Seg.ord ho').shape;exact⟨o',c',by rw [h];simp⟩
     refine blkStep (fun K HK=>?_);simp only [PK]
     go_wp2_with fail
     refine HK.out _ _ ?_;clear HK K;obtain⟨wp8,hwp8,hbp8,hcp8⟩:=one_set hB2 0 (.slice oN (D1.length+1) cN);simp only [List.setIfInBounds_toArray,List.set_cons_zero] at hbp8;have hR8:=Own.kept _ ho' hcp8 (fun b hb e=>by have hy:=HY.out;have h3:b=B7:=e;have h5:=HZ0.out;have h6:=blk_lt hb7;rcases hb with ⟨h1,h2⟩ | ⟨h1,h2⟩ <;> omega);have hQ8:=Own.kept _ hQ2 hcp8 (fun b hb e=>by have hy:=HY.out;have h3:b=B7:=e;have h1:=hb.1;have h2:=hb.2;omega);have hx8:=hx'.chg hcp8 (fun i hi=>by have h3:i=B7:=hi;have hy:=HY.out;have h4:=HS4.out;omega);have hx48:=hx4'.chg hcp8 (fun i hi=>by have h3:i=B7:=hi;have hy:=HY.out;omega);have hz8:=hcp8.size;have HZ:=Ac (by have h1:=HZ0.out;have h2:=HZA.out;omega:wc.heap.size≤wp8.heap.size);have HW8:=Ac hwp8;have cp8:=blk2 hB2;have fp8:=fr_of hB2 0;clear hwp8 hcp8 ho' hQ2 hB2 hx' hx4';refine badStep (by kernel_rfl) (fun K HK=>?_);simp only [PK]
     go_wp2_with fail
     refine HK.out _ _ ?_;clear HK K cp8 fp8;refine Ap (by kernel_rfl) ?_;rw [← HW8.out];have HZC:=Ac (Ext.size (((((hxc.t hz1).t hz2).t hz3).t hz4).t ((Ab _).drew)))
     have HSD : Hid (0 < (D1 ++ [s]).length → ∃ b c, (.slice oN (D1.length + 1) cN : Value) = .slice (some ⟨b, 0, none⟩) (D1 ++ [s]).length c ∧ w.heap.size ≤ b) := Ac ((fun h => by
      have h8 := hR8; unfold Seg.ownS at h8; obtain ⟨b9, c9, e9, h9, _⟩ := nest_shape h8 h; refine ⟨b9, c9, by rw [← e9], ?_⟩; have hy := HY.out; have h4 := HS4.out; have h6 := HZ0.out; have h7 := HZC.out
      rcases h9 with ⟨h1, _⟩ | ⟨h1, _⟩ <;> omega))
     have hbr:=Aa (hx48) HB.2.2.2;obtain⟨wq9,hwq9,hbq9,hcq9⟩:=two_set hbr (.slice oN (D1.length+1) cN) (.slice oC C1.length cC);have HQ:=Ac (⟨(by have hy:=HY.out;have h4:=HS4.out;have hz:=hcq9.size;have h6:=HZ0.out;exact Be (Own.mono Seg.ownS (Own.kept _ hR8 hcq9 (fun b hb e=>by have h3:b=w.heap.size+1+1+1:=e;have h7:=HZC.out;rcases hb with ⟨h1,h2⟩ | ⟨h1,h2⟩ <;> omega)) (fun q hq=>⟨by have h7:=HZC.out;rcases hq with ⟨h1,h2⟩ | ⟨h1,h2⟩ <;> omega,by have h5:=HZ.out;rcases hq with ⟨h1,h2⟩ | ⟨h1,h2⟩ <;> omega⟩))),(by have hy:=HY.out;have h4:=HS4.out;have hz:=hcq9.size;exact Be (Own.mono Seg.ownS (Own.kept _ hQ8 hcq9 (fun b hb e=>by have h1:=hb.1;have h3:b=w.heap.size+1+1+1:=e;omega)) (fun q hq=>⟨by have h1:=hq.1;omega,by have h2:=hq.2;have h5:=HZ.out;omega⟩))),Ext.chg hx8 hcq9 (fun i hi=>by have h3:i=w.heap.size+1+1+1:=hi;omega)⟩:(Own.keep Seg.rep).own (rng w.heap.size wq9.heap.size) wq9 (.slice oN (D1.length+1) cN) (D1 ++ [s])∧(Own.keep Seg.rep).own (rng w.heap.size wq9.heap.size) wq9 (.slice oC C1.length cC) C1∧Ext w wq9);have HWQ9:=Ac hwq9;have HBQ9:=Ac hbq9;have cp9:=blk2 hbp8;have cr9:=blk2 hbr;have fr9:=fr_of hbr 0;have fr8:=fr_of hbr 1;clear hwq9 hbq9 hcq9 hbr
     go_wp2_with fail
     rw [← HWQ9.out];have cc9:=blk2 HBQ9.out;clear cp9 cr9 fr9 fr8;refine bodyPost_ret (by simp [results,Tryz.results125,go_sem,cc9] <;> rfl) rfl ?_;exact⟨_,_,(D1 ++ [s]),C1,rfl,hD1.snoc hs,hC1.mono (Nat.le_succ _),HQ.out.1,HQ.out.2.1,HSD.out,HQ.out.2.2⟩
    case true=>
     try clear cf12
     try clear cf13
     try clear cf14
     try clear cf15
     have hE:=((((hx0.t hxc).t hz1).t hz2).t hz3)
     have hB7:=Aa ((hz1.t hz2).t hz3) hb7;have HZ:=Ac (Ext.size ((hz1.t hz2).t hz3));have RD2:=Aj RD ((hz1.t hz2).t hz3);have RC2:=Aj RC ((hz1.t hz2).t hz3)
     have hx4:=(((hxc.t hz1).t hz2).t hz3)
     have HSD : Hid (0 < D1.length → ∃ b c, (.slice oD D1.length cD : Value) = .slice (some ⟨b, 0, none⟩) D1.length c ∧ w.heap.size ≤ b) := Ac ((fun h => by
      have h8 := RD2; unfold Seg.ownS at h8; obtain ⟨b9, c9, e9, h9, _⟩ := nest_shape h8 h
      exact ⟨b9, c9, e9, by have hy := HY.out; have h4 := HS4.out; have h1 := h9.1; omega⟩))
     have hbr:=Aa (hx4) HB.2.2.2;obtain⟨wq9,hwq9,hbq9,hcq9⟩:=two_set hbr (.slice oD D1.length cD) (.slice oC C1.length cC);have HQ:=Ac (⟨(by have hy:=HY.out;have h4:=HS4.out;have hz:=hcq9.size;exact Be (Own.mono Seg.ownS (Own.kept _ RD2 hcq9 (fun b hb e=>by have h1:=hb.1;have h3:b=w.heap.size+1+1+1:=e;omega)) (fun q hq=>⟨by have h1:=hq.1;omega,by have h2:=hq.2;have h5:=HZ.out;omega⟩))),(by have hy:=HY.out;have h4:=HS4.out;have hz:=hcq9.size;exact Be (Own.mono Seg.ownS (Own.kept _ RC2 hcq9 (fun b hb e=>by have h1:=hb.1;have h3:b=w.heap.size+1+1+1:=e;omega)) (fun q hq=>⟨by have h1:=hq.1;omega,by have h2:=hq.2;have h5:=HZ.out;omega⟩))),Ext.chg hE hcq9 (fun i hi=>by have h3:i=w.heap.size+1+1+1:=hi;omega)⟩:(Own.keep Seg.rep).own (rng w.heap.size wq9.heap.size) wq9 (.slice oD D1.length cD) D1∧(Own.keep Seg.rep).own (rng w.heap.size wq9.heap.size) wq9 (.slice oC C1.length cC) C1∧Ext w wq9);have HWQ9:=Ac hwq9;have HBQ9:=Ac hbq9;have cp9:=blk2 hB7;have cr9:=blk2 hbr;have fr9:=fr_of hbr 0;have fr8:=fr_of hbr 1;clear hwq9 hbq9 hcq9 hbr
     go_wp2_with fail
     rw [← HWQ9.out];have cc9:=blk2 HBQ9.out;clear cp9 cr9 fr9 fr8;refine bodyPost_ret (by simp [results,Tryz.results125,go_sem,cc9] <;> rfl) rfl ?_;exact⟨_,_,D1,C1,rfl,hD1.mono (Nat.le_succ _),hC1.mono (Nat.le_succ _),HQ.out.1,HQ.out.2.1,HSD.out,HQ.out.2.2⟩
end
end Go.Proofs.YteodlcpeoaggbaaGreat
