/- What these laws need: FnOld, FnWalks: Contracts of segments: their chaining values, codes and ASes; joins of segments. Parts made of segments, reference; the first and the last AS of a segment. A path up by one segment and down by another one, from where they meet. -/
import Derived.Test.YteodlcpeoaggbaaGreatKV11
import Derived.Test.YteodlcpeoaggbaaGreatKV14
namespace Go.Proofs.YteodlcpeoaggbaaGreat
section
open Go.ChangeShapes Go.WideShapes Go.ChangeAt Go.RowKit Go.Deep
set_option maxRecDepth 100000
set_option maxHeartbeats 8000000
theorem RdS.pre {α:Type} {r:Rep α} {w:World} {o:Option Addr} {m cap:Nat} {l:List α} (h:RdS r w (.slice o m cap) l) (k:Nat) (hk:k≤l.length):RdS r w (.slice o k cap) (l.take k):=by
 obtain⟨o',cap',hv,c1,c2,hn,hel⟩:=h
 cases hv
 have hlen:(l.take k).length=k:=by simp;omega
 refine⟨_,_,by rw [hlen],by rw [hlen];omega,c2,hn,fun i hi=>?_⟩;obtain⟨b,off,cs,hb,hc,hr⟩:=hel i (by omega);exact⟨b,off,cs,hb,hc,by simpa using hr⟩
theorem RdS.emp {α:Type} (r:Rep α) (w:World) (o:Option Addr) (c:Nat) (h:c≤maxLen) (hn:o=none→c=0):RdS r w (.slice o 0 c) []:=
 ⟨o,c,rfl,Nat.zero_le _,h,hn,fun i hi=>absurd hi (by simp)⟩
theorem RdS.suf {α:Type} {r:Rep α} {w:World} {b off m cap:Nat} {l:List α} (h:RdS r w (.slice (some ⟨b,off,none⟩) m cap) l) (k:Nat) (hk:k≤l.length) :
  RdS r w (.slice (some ⟨b,off+k * r.cells,none⟩) (l.length - k) (cap - k)) (l.drop k):=by
 have:=h.part k l.length hk (Ae _)
 simpa using this
theorem s_SegmentASes (s:Seg) (v:Value) (w:World) (r:RdS Hop.rep w v s.hops) (hl:s.hops.length≤1048576) :
  Calls Tryz.prog 134 #[.agg #[.int .i64 s.ts,.int .i64 s.beta,v]] w fun e w'=>∃ v',e=.returned v'∧OwnF intF 1 w.heap.size 3 w' v' (s.hops.map (·.asn))∧Ext w w':=by
 obtain⟨o,cap,rfl,hsm⟩:=r.shape;obtain⟨E⟩:=elemInt
 obtain⟨ml,hml⟩:∃ ml,ml=s.hops.map (·.asn):=⟨_,rfl⟩
 have hlm:ml.length=s.hops.length:=by rw [hml];simp
 have HAT:Hid (∀ (k:Nat) (h:k<ml.length) (h':k<s.hops.length),ml[k]=s.hops[k].asn):=Ac (by intro k h h';subst hml;simp);rw [← hml];clear hml;have HLM:=Ac hlm;clear hlm;obtain⟨hx0,HB0⟩:=ea1 w (.cells #[.int .i64 s.ts,.int .i64 s.beta,.slice o s.hops.length cap] 116);replace HB0:=Ac HB0
 go_enter Tryz.func134,Tryz.ntmps134
 have ho0:=Bj intF 1 (w.alloc (.cells #[.int .i64 s.ts,.int .i64 s.beta,.slice o s.hops.length cap] 116)).heap.size 3 (w.alloc (.cells #[.int .i64 s.ts,.int .i64 s.beta,.slice o s.hops.length cap] 116)) (Ae _);simp only [nblk_alloc] at ho0
 go_wp2
 go_loopg [3,4] s.hops.length (fun gk out i wr=>∃ k:Nat,gk+k=s.hops.length∧i=.int .i64 k∧OwnF intF 1 (w.heap.size+1) 3 wr out (ml.take k)∧Ext (w.alloc (.cells #[.int .i64 s.ts,.int .i64 s.beta,.slice o s.hops.length cap] 116)) wr)
 case atStart=>exact⟨0,by omega,rfl,ho0,(Ab _).alloc _⟩
 case round=>
  obtain⟨k,hgk,rfl,hown,hx⟩:=hrel;clear ho0
  by_cases hlt:k<s.hops.length
  ·
   have hg':gk - 1+(k+1)=s.hops.length∧gk - 1<gk:=by omega
   have HG:=Ac hg';clear hg' hgk;have hlx:k<s.hops.length:=by omega
   obtain⟨b,off,rfl,hc⟩:=Ca (r.ext (hx0.t hx)) k hlx;have hkm:k<ml.length:=by rw [HLM.out];exact hlt
   have HS:=Ac (show ml.take k ++ [s.hops[k].asn]=ml.take (k+1) by rw [List.take_succ_eq_append_getElem hkm,HAT.out k hkm hlx]);have hln:(ml.take k).length≤k:=List.length_take_le _ _;clear hkm;have cf1:=blk3 (Aa hx HB0.out)
   go_wp2_with (at_builtin;refine app1 E intFlen intOne rfl _ _ rfl s.hops[k].asn rfl (hown.ext ((Ab _).alloc _)) rfl (by exact Au (intF s.hops[k].asn) (blk_new wr _)) (by omega) (by unfold maxLen;omega) (by have:=(hx.alloc (.cells #[.int .i64 s.hops[k].asn] 3)).size;simpa using this) ?_)
   intro v' w' ho' hg';have hx':=(hx.alloc (.cells #[.int .i64 s.hops[k].asn] 3)).app (e:=3) hg' hown (by simp);rw [HS.out] at ho';clear hg' hown
   go_wp2_with fail
   go_roundg (gk - 1)
   case measure=>exact HG.out.2
   case rel=>exact⟨k+1,HG.out.1,by go_num,ho',hx'⟩
  have HXS:=Ac (show ml.take k=ml by rw [List.take_of_length_le (by rw [HLM.out];omega)]);rw [HXS.out] at hown;have cf2:=blk3 (Aa hx HB0.out)
  go_wp2_with fail
  go_ret
  exact⟨_,rfl,hown.mono (Nat.le_succ _),(hx0.t hx)⟩
theorem s_l9Seals (s:Seg) (v:Value) (n:Nat) (w:World) (r:RdS Hop.rep w v s.hops) (hl:s.hops.length≤1048576) (hn:n≤s.hops.length) :
  Calls Tryz.prog 175 #[.agg #[.int .i64 s.ts,.int .i64 s.beta,v],.int .i64 n] w fun e w'=>∃ v',e=.returned v'∧OwnF intF 1 w.heap.size 3 w' v' ((s.hops.take n).map (·.mac))∧Ext w w':=by
 obtain⟨o,cap,rfl,hsm⟩:=r.shape;obtain⟨E⟩:=elemInt
 obtain⟨ml,hml⟩:∃ ml,ml=(s.hops.take n).map (·.mac):=⟨_,rfl⟩
 have hlm:ml.length=n:=by rw [hml];simp;omega
 have HAT:Hid (∀ (k:Nat) (h:k<ml.length) (h':k<s.hops.length),ml[k]=s.hops[k].mac):=Ac (by intro k h h';subst hml;simp);rw [← hml];clear hml;have HLM:=Ac hlm;clear hlm;obtain⟨hx0,HB0⟩:=ea1 w (.cells #[.int .i64 s.ts,.int .i64 s.beta,.slice o s.hops.length cap] 116);replace HB0:=Ac HB0
 go_enter Tryz.func175,Tryz.ntmps175
 have ho0:=Bj intF 1 (w.alloc (.cells #[.int .i64 s.ts,.int .i64 s.beta,.slice o s.hops.length cap] 116)).heap.size 3 (w.alloc (.cells #[.int .i64 s.ts,.int .i64 s.beta,.slice o s.hops.length cap] 116)) (Ae _);simp only [nblk_alloc] at ho0
 go_wp2
 go_loopg [5,6] n (fun gk out i wr=>∃ k:Nat,gk+k=n∧i=.int .i64 k∧OwnF intF 1 (w.heap.size+1) 3 wr out (ml.take k)∧Ext (w.alloc (.cells #[.int .i64 s.ts,.int .i64 s.beta,.slice o s.hops.length cap] 116)) wr)
 case atStart=>exact⟨0,by omega,rfl,ho0,(Ab _).alloc _⟩
 case round=>
  obtain⟨k,hgk,rfl,hown,hx⟩:=hrel;clear ho0
  by_cases hlt:k<n
  ·
   have hg':gk - 1+(k+1)=n∧gk - 1<gk:=by omega
   have HG:=Ac hg';clear hg' hgk;have hlx:k<s.hops.length:=by omega
   obtain⟨b,off,rfl,hc⟩:=Ca (r.ext (hx0.t hx)) k hlx;have hkm:k<ml.length:=by rw [HLM.out];exact hlt
   have HS:=Ac (show ml.take k ++ [s.hops[k].mac]=ml.take (k+1) by rw [List.take_succ_eq_append_getElem hkm,HAT.out k hkm hlx]);have hln:(ml.take k).length≤k:=List.length_take_le _ _;clear hkm;have cf1:=blk3 (Aa hx HB0.out)
   go_wp2_with (at_builtin;refine app1 E intFlen intOne rfl _ _ rfl s.hops[k].mac rfl (hown.ext ((Ab _).alloc _)) rfl (by exact Au (intF s.hops[k].mac) (blk_new wr _)) (by omega) (by unfold maxLen;omega) (by have:=(hx.alloc (.cells #[.int .i64 s.hops[k].mac] 3)).size;simpa using this) ?_)
   intro v' w' ho' hg';have hx':=(hx.alloc (.cells #[.int .i64 s.hops[k].mac] 3)).app (e:=3) hg' hown (by simp);rw [HS.out] at ho';clear hg' hown
   go_wp2_with fail
   go_roundg (gk - 1)
   case measure=>exact HG.out.2
   case rel=>exact⟨k+1,HG.out.1,by go_num,ho',hx'⟩
  have HXS:=Ac (show ml.take k=ml by rw [List.take_of_length_le (by rw [HLM.out];omega)]);rw [HXS.out] at hown;have cf2:=blk3 (Aa hx HB0.out)
  go_wp2_with fail
  go_ret
  exact⟨_,rfl,hown.mono (Nat.le_succ _),(hx0.t hx)⟩
theorem s_BetaAt (s:Seg) (v:Value) (i:Int) (w:World) (r:RdS Hop.rep w v s.hops) (hl:s.hops.length≤1048576) :
  Calls Tryz.prog 136 #[.agg #[.int .i64 s.ts,.int .i64 s.beta,v],.int .i64 i] w fun e w'=>e=.returned (.int .i64 (betaAt s i))∧Ext w w':=by
 obtain⟨o,cap,rfl,hsm⟩:=r.shape;obtain⟨hx0,HB0⟩:=ea1 w (.cells #[.int .i64 s.ts,.int .i64 s.beta,.slice o s.hops.length cap] 116);replace HB0:=Ac HB0
 go_enter Tryz.func136,Tryz.ntmps136
 have cf1:=blk3 HB0.out
 go_wp2_with fail
 refine(s_l1In _ _ _ _).mono ?_;rintro e _ ⟨rfl,rfl⟩
 cases b:inR i 0 s.hops.length
 ·
  have HE:=Ac (show betaAt s i=0 by unfold betaAt;rw [b];rfl)
  go_wp2_with fail
  go_ret
  exact⟨ret_int HE.out.symm,hx0⟩
 obtain⟨h0,h1⟩:=Bk.1 b;obtain⟨n,rfl⟩:=Int.eq_ofNat_of_zero_le h0;have HE:=Ac (betaAt_nat (s:=s) (k:=n) (by omega))
 go_wp2_with fail
 refine Ax (.blk [0,1,2,3] (.one 4 (.one 5 (.blk [6] .done)))) [] (by kernel_rfl) (by kernel_rfl) ?_
 try clear cf1
 have cf2:=blk3 (Aa ((Ab _).drew) HB0.out);refine blkStep (fun K HK=>?_);simp only [PK]
 go_wp2_with fail
 refine HK.out _ _ ?_;clear HK K;refine oneStep (fun K HK=>?_);simp only [PK]
 go_wp2_with fail
 refine(s_l9Seals s _ n _ (r.ext (hx0.t ((Ab _).drew))) (by omega) (by omega)).mono ?_;rintro e w2 ⟨u,rfl,ou,hz2⟩
 go_wp2_with fail
 refine HK.out _ _ hz2 ?_;clear HK K;refine oneStep (fun K HK=>?_);simp only [PK]
 go_wp2_with fail
 refine(s_ChainAdd s.beta _ _ _ (Bo ou)).mono ?_;rintro e _ ⟨rfl,rfl⟩
 go_wp2_with fail
 refine HK.out _ _ (Ab _) ?_;clear HK K;refine blkStep (fun K HK=>?_);simp only [PK]
 go_wp2_with fail
 refine HK.out _ _ ?_;clear HK K;refine Ap (by kernel_rfl) ?_
 go_wp2_with fail
 go_ret
 exact⟨ret_int (by rw [HE.out];try rw [List.map_take]),(hx0.t ((Ab _).drew)).t hz2⟩
theorem s_AuthenticateHop (key ts beta:Int) (h:Hop) (w:World) :
  Calls Tryz.prog 135 #[.int .i64 key,.int .i64 ts,.int .i64 beta,.agg #[.int .i64 h.asn,.int .i64 h.ing,.int .i64 h.eg,.int .i64 h.exp,.int .i64 h.mac]] w fun e w'=>e=.returned (.agg #[.int .i64 h.asn,.int .i64 h.ing,.int .i64 h.eg,.int .i64 h.exp,.int .i64 (hopMac key ts beta h)])∧Ext w w':=by
 obtain⟨hx0,HB0⟩:=ea3 w (.cells #[.int .i64 h.asn,.int .i64 h.ing,.int .i64 h.eg,.int .i64 h.exp,.int .i64 h.mac] 103) (.cells #[.int .i64 0,.int .i64 0,.int .i64 0,.int .i64 0,.int .i64 0] 103) (.cells #[.int .i64 h.asn,.int .i64 h.ing,.int .i64 h.eg,.int .i64 h.exp,.int .i64 h.mac] 103);replace HB0:=Ac HB0
 go_enter Tryz.func135,Tryz.ntmps135
 have cf1:=blk5 HB0.out.1;have cf2:=blk5 HB0.out.2.1;have cf3:=blk5 HB0.out.2.2
 go_wp2_with fail
 refine(s_HopMAC key ts beta h _).mono ?_;rintro e w1 ⟨rfl,hz1⟩;have HX:=Ac (hx0.t hz1);have hb1:=Aa hz1 HB0.out.2.1;have hb2:=Aa hz1 HB0.out.2.2;obtain⟨wx,hwx,hbx,hcx⟩:=one_set hb2 4 (.int .i64 (hopMac key ts beta h));simp only [List.setIfInBounds_toArray,List.set_cons_succ,List.set_cons_zero] at hbx;have hb3:=hcx.blkS hb1 (by unfold at1;omega);obtain⟨wq,hwq,hbq,hcq⟩:=rs_set hb3 (.int .i64 h.asn) (.int .i64 h.ing) (.int .i64 h.eg) (.int .i64 h.exp) (.int .i64 (hopMac key ts beta h));have HWX:=Ac hwx;have HWQ:=Ac hwq;have HBX:=Ac hbx;have HB3:=Ac hb3;have HBQ:=Ac hbq;have HE:=Ac ((HX.out.chg hcx (fun i hi=>by have h1:i=w.heap.size+1+1:=hi;omega)).chg hcq (fun i hi=>by have h1:i=w.heap.size+1:=hi;omega));have ff:=fr_of hb2 4;clear hb1 hwx hwq hbx hb3 hbq hcx hcq;have cg:=blk5 hb2;clear hb2
 go_upto_region 3 with (fail)
 rw [← HWX.out];clear ff cg;have fR0:=fr5 HB3.out;have cR:=blk5 HB3.out;have cX:=blk5 HBX.out
 try clear cf1
 try clear cf2
 try clear cf3
 go_wp2_with fail
 rw [← HWQ.out];clear cR cX fR0;have cc:=blk5 HBQ.out;refine bodyPost_ret (by simp [results,Tryz.results135,go_sem,cc];rfl) rfl ?_;exact⟨rfl,HE.out⟩
theorem s_InterfacesOfKind (t:Topo) (v1 v2:Value) (r kind:Int) (w:World) (h2:RdS Lnk.rep w v2 t.links) (hl:t.links.length≤1000) :
  Calls Tryz.prog 133 #[.agg #[v1,v2],.int .i64 r,.int .i64 kind] w fun e w'=>∃ v',e=.returned v'∧OwnF intF 1 w.heap.size 3 w' v' (ifsKind t r kind)∧Ext w w':=by
 obtain⟨E⟩:=elemInt;obtain⟨o,cap,rfl,hsm⟩:=h2.shape;obtain⟨hx0,HB0⟩:=ea1 w (.cells #[v1,.slice o t.links.length cap] 27);replace HB0:=Ac HB0
 go_enter Tryz.func133,Tryz.ntmps133
 have ho0:=Bj intF 1 (w.alloc (.cells #[v1,.slice o t.links.length cap] 27)).heap.size 3 (w.alloc (.cells #[v1,.slice o t.links.length cap] 27)) (Ae _);have hxe:Ext (w.alloc (.cells #[v1,.slice o t.links.length cap] 27)) ((w.alloc (.cells #[v1,.slice o t.links.length cap] 27)).alloc (.cells #[] 3)):=(Ab _).alloc _;have cf1:=blk2 (Aa hxe HB0.out)
 go_wp2_with fail
 refine(s_Interfaces t v1 _ r _ (h2.ext (hx0.t hxe)) (by omega)).mono ?_;rintro e w1 ⟨vi,rfl,oi,hz1⟩;replace ho0:=ho0.ext hz1
 obtain⟨li,hli⟩:∃ li,li=topoIfs t.links r:=⟨_,rfl⟩
 have hlt:=topoIfs_len t.links r;have HIK:=Ac (show ifsKind t r kind=li.filter (fun d=>ifKind t r d == kind) by rw [hli];rfl);rw [← hli] at oi hlt;clear hli;obtain⟨oo,co,rfl,_⟩:=(Bo oi).shape
 have hat:∀ q,(Value.slice (some ⟨(w.alloc (.cells #[v1,.slice o t.links.length cap] 27)).heap.size,0,none⟩) 0 0).ownBlock=some q→(Value.slice oo li.length co).ownBlock≠some q:=fun q hq e=>by
  have h1:=(oi.block q e).1;have h2:(w.alloc (.cells #[v1,.slice o t.links.length cap] 27)).heap.size=q:=by simpa [Value.ownBlock] using hq
  simp at h1 h2;omega
 have hx1:=(hxe.t hz1)
 simp only [nblk_alloc] at ho0 hat
 try clear cf1
 have cf2:=blk2 (Aa (hxe.t hz1) HB0.out)
 go_wp2_with fail
 go_loopg [7,9] li.length (fun gk out i wr=>∃ k:Nat,gk+k=li.length∧i=.int .i64 k∧OwnF intF 1 (w.heap.size+1) 3 wr out ((li.take k).filter (fun d=>ifKind t r d == kind))∧OwnF intF 1 0 3 wr (.slice oo li.length co) li∧(∀ q,out.ownBlock=some q→(Value.slice oo li.length co).ownBlock≠some q)∧Ext (w.alloc (.cells #[v1,.slice o t.links.length cap] 27)) wr)
 case atStart=>exact⟨0,by omega,rfl,by simpa using ho0,oi.to0,hat,hx1⟩
 case round=>
  clear hat hx1 oi ho0 hz1;obtain⟨k,hgk,rfl,ho,oi,hat,hx⟩:=hrel;have HGK:=Ac hgk;have HAT:=Ac hat;clear hgk hat;have hkl:k≤li.length:=by have h1:=HGK.out;omega
  have hln:((li.take k).filter (fun d=>ifKind t r d == kind)).length≤k:=Ad (List.length_filter_le _ _) (List.length_take_le _ _)
  by_cases hlt:k<li.length
  ·
   obtain⟨b,off,rfl,hc⟩:=ints_at (Bo oi) k hlt
   try clear cf2
   have cf3:=blk2 (Aa hx HB0.out)
   go_wp2_with fail
   refine Ax (.blk [0,1,2,3,4,5,7] (.one 6 (.blk [8] .done))) [] (by kernel_rfl) (by kernel_rfl) ?_
   try clear cf3
   have cf4:=blk2 (Aa (hx.t ((Ab _).drew)) HB0.out);have cf5:=By ((Ab _).drew) hc;refine blkStep (fun K HK=>?_);simp only [PK]
   go_wp2_with fail
   refine HK.out _ _ ?_;clear HK K;refine oneStep (fun K HK=>?_);simp only [PK]
   go_wp2_with fail
   refine(s_InterfaceKind t v1 _ r li[k] _ (h2.ext ((hx0.t hx).t ((Ab _).drew)))).mono ?_;rintro e w3 ⟨rfl,hz3⟩
   go_wp2_with fail
   refine HK.out _ _ hz3 ?_;clear HK K;refine blkStep (fun K HK=>?_);simp only [PK]
   go_wp2_with fail
   refine HK.out _ _ ?_;clear HK K;refine Ap (by kernel_rfl) ?_;replace ho:=(ho.ext ((Ab _).drew)).ext hz3;replace oi:=(oi.ext ((Ab _).drew)).ext hz3
   cases ht:(ifKind t r li[k] == kind)
   ·
    try clear cf4
    try clear cf5
    have cf6:=blk2 (Aa ((hx.t ((Ab _).drew)).t hz3) HB0.out);have cf7:=By (((Ab _).drew).t hz3) hc
    go_wp2_with fail
    go_roundg (gk - 1)
    case measure=>have h1:=HGK.out;omega
    case rel=>exact⟨k+1,by have h1:=HGK.out;omega,congrArg (Value.int .i64) (by first | omega | (unfold wrap64;omega)),by rw [← filter_neg (α:=Int) (fun d=>ifKind t r d == kind) hlt (by rw [ht];simp)];exact ho,oi,HAT.out,((hx.t ((Ab _).drew)).t hz3)⟩
   have HX:=Ac ((hx.t ((Ab _).drew)).t hz3)
   try clear cf4
   try clear cf5
   have cf8:=blk2 (Aa ((hx.t ((Ab _).drew)).t hz3) HB0.out);have cf9:=By (((Ab _).drew).t hz3) hc
   go_wp2_with (at_builtin;refine app1p E intFlen rfl _ _ rfl li[k] (intOne _) rfl (Ay ho ((Ab _).alloc _)) rfl (by exact Au (intF li[k]) (blk_new w3 _)) (by omega) (by unfold maxLen;omega) (by have h1:=HX.out.size;simp at h1 ⊢;omega) ?_)
   intro v' w' ho' hg' hat';have hx':=(HX.out.alloc (.cells #[.int .i64 li[k]] 3)).app (e:=3) hg' ho (by simp);have oi':=(oi.ext ((Ab w3).alloc (.cells #[.int .i64 li[k]] 3))).chg (chg_own (ho.ext ((Ab w3).alloc (.cells #[.int .i64 li[k]] 3))) hg') (fun q hq h=>HAT.out q h hq)
   have hat2:∀ q,v'.ownBlock=some q→(Value.slice (some ⟨b,off,none⟩) li.length co).ownBlock≠some q:=fun q hq e=>by
    rcases hat' with h | h
    ·
     exact HAT.out q (by rw [← h];exact hq) e
    have h1:=(oi.block q e).2;rw [h] at hq
    injection hq with hq
    first | omega | (simp at hq;omega)
   have HA2:=Ac hat2;clear hat2 hat' hg' oi
   try clear cf8
   try clear cf9
   go_wp2_with fail
   go_roundg (gk - 1)
   case measure=>have h1:=HGK.out;omega
   case rel=>exact⟨k+1,by have h1:=HGK.out;omega,congrArg (Value.int .i64) (by first | omega | (unfold wrap64;omega)),by rw [← filter_pos (α:=Int) (fun d=>ifKind t r d == kind) hlt ht];exact ho',oi',HA2.out,hx'⟩
  rw [List.take_of_length_le (by omega)] at ho
  try clear cf2
  have cf10:=blk2 (Aa hx HB0.out)
  go_wp2_with fail
  go_ret
  exact⟨_,rfl,by rw [HIK.out];exact ho.mono (Nat.le_succ _),(hx0.t hx)⟩
theorem RdS.sufE {α:Type} {r:Rep α} {w:World} {o:Option Addr} {m k:Nat} {l:List α} (h:RdS r w (.slice o m k) l) (_:k≤l.length):RdS r w (.slice o 0 0) (l.drop k):=by
 have h1:=h.capLe;have h2:l.drop k=[]:=List.drop_of_length_le (by omega);rw [h2];exact RdS.emp r w o 0 (Nat.zero_le _) (fun _=>rfl)
theorem s_FirstASn (s:Seg) (v:Value) (w:World) (r:RdS Hop.rep w v s.hops) :
  Calls Tryz.prog 86 #[.agg #[.int .i64 s.ts,.int .i64 s.beta,v]] w fun e w'=>∃ q:Int,e=.returned (.int .i64 q)∧(∀ h:0<s.hops.length,q=(s.hops[0]'(by omega)).asn)∧Ext w w':=by
 obtain⟨o,cap,rfl,hsm⟩:=r.shape;obtain⟨hx0,HB0⟩:=ea1 w (.cells #[.int .i64 s.ts,.int .i64 s.beta,.slice o s.hops.length cap] 116);replace HB0:=Ac HB0;have cb:=blk3 HB0.out
 go_enter Tryz.func86,Tryz.ntmps86
 by_cases h0:0<s.hops.length
 ·
  have h1:((s.hops.length:Int) == 0)=false:=by simp;exact List.ne_nil_of_length_pos h0
  have h2:(0:Int)<(s.hops.length:Int):=by omega
  obtain⟨b,off,rfl,hc⟩:=Ca (r.ext hx0) 0 h0;simp only [Nat.zero_mul,Nat.add_zero] at hc
  go_wp2_with fail
  go_ret
  exact⟨_,rfl,fun _=>rfl,hx0⟩
 have h1:((s.hops.length:Int) == 0)=true:=by simp;exact List.eq_nil_of_length_eq_zero (by omega)
 go_wp2_with fail
 go_ret
 exact⟨_,rfl,fun h=>absurd h h0,hx0⟩
theorem s_LastASn (s:Seg) (v:Value) (w:World) (r:RdS Hop.rep w v s.hops) :
  Calls Tryz.prog 87 #[.agg #[.int .i64 s.ts,.int .i64 s.beta,v]] w fun e w'=>∃ q:Int,e=.returned (.int .i64 q)∧(∀ h:0<s.hops.length,q=(s.hops[(s.hops.length - 1)]'(by omega)).asn)∧Ext w w':=by
 obtain⟨o,cap,rfl,hsm⟩:=r.shape;obtain⟨hx0,HB0⟩:=ea1 w (.cells #[.int .i64 s.ts,.int .i64 s.beta,.slice o s.hops.length cap] 116);replace HB0:=Ac HB0;have cb:=blk3 HB0.out
 go_enter Tryz.func87,Tryz.ntmps87
 by_cases h0:0<s.hops.length
 ·
  have h1:((s.hops.length:Int) == 0)=false:=by simp;exact List.ne_nil_of_length_pos h0
  have hlt:s.hops.length - 1<s.hops.length:=by omega
  obtain⟨b,off,rfl,hc⟩:=Ca (r.ext hx0) (s.hops.length - 1) hlt
  obtain⟨m,hm⟩:∃ m,m=s.hops.length - 1:=⟨_,rfl⟩
  have hm1:(s.hops.length:Int) - 1=(m:Int):=by omega
  have hm2:m<s.hops.length:=by omega
  have h2:(0:Int)<(s.hops.length:Int):=by omega
  have hx:s.hops[s.hops.length - 1]=s.hops[m]:=by congr 1;omega
  rw [hx] at hc;rw [← hm] at hc;have HX:=Ac hx;clear hx hm
  go_wp2_with fail
  go_ret
  exact⟨_,rfl,fun _=>congrArg Hop.asn HX.out.symm,hx0⟩
 have h1:((s.hops.length:Int) == 0)=true:=by simp;exact List.eq_nil_of_length_eq_zero (by omega)
 go_wp2_with fail
 go_ret
 exact⟨_,rfl,fun h=>absurd h h0,hx0⟩
theorem s_MakePart (s:Seg) (v:Value) (kind k:Int) (w:World) (r:RdS Hop.rep w v s.hops) (hl:s.hops.length≤1000) :
  Calls Tryz.prog 84 #[.agg #[.int .i64 s.ts,.int .i64 s.beta,v],.int .i64 kind,.int .i64 k] w fun e w'=>∃ u,e=.returned (.agg #[.int .i64 (makePart s kind k).kind,.int .i64 (makePart s kind k).ts,.int .i64 (makePart s kind k).beta,u])∧OwnF Hop.f 5 w.heap.size 103 w' u (makePart s kind k).hops∧Ext w w':=by
 obtain⟨o,cap,rfl,hsm⟩:=r.shape;obtain⟨E⟩:=elemHop;have hcap:=r.capLe;obtain⟨hx0,HB⟩:=ea2 w (.cells #[.int .i64 s.ts,.int .i64 s.beta,.slice o s.hops.length cap] 116) (.cells #[.int .i64 0,.int .i64 0,.int .i64 0,.slice none 0 0] 99);replace HB:=Ac HB
 go_enter Tryz.func84,Tryz.ntmps84
 have cb:=blk3 HB.out.1;have cz:=blk4 HB.out.2
 go_wp2_with fail
 refine(s_l1In _ _ _ _).mono ?_;rintro e _ ⟨rfl,rfl⟩
 cases hin:inR k 0 ((s.hops.length:Int) - 1)
 ·
  have hmp:makePart s kind k=⟨0,0,0,[]⟩:=by unfold makePart;rw [if_neg (by simp [hin])]
  have HMP:=Ac hmp;clear hmp;have g0:=fr4 HB.out.2
  go_wp2_with fail
  refine bodyPost_ret (by simp [results,Tryz.results84,go_sem,cz];rfl) rfl ⟨.slice none 0 0,?_,?_,?_⟩
  ·
   rw [HMP.out]
  ·
   rw [HMP.out];exact OwnF.nil _ _ _ _ _
  first | exact hx0 | exact(((hx0.setCell (by simp) _).setCell (by simp) _).setCell (by simp) _).setCell (by simp) _
 go_wp2_with fail
 refine(s_l1In _ _ _ _).mono ?_;rintro e _ ⟨rfl,rfl⟩
 cases hik:inR kind 1 4
 ·
  have hmp:makePart s kind k=⟨0,0,0,[]⟩:=by unfold makePart;rw [if_neg (by simp [hin,hik])]
  have HMP:=Ac hmp;clear hmp;have g0:=fr4 HB.out.2
  go_wp2_with fail
  refine bodyPost_ret (by simp [results,Tryz.results84,go_sem,cz];rfl) rfl ⟨.slice none 0 0,?_,?_,?_⟩
  ·
   rw [HMP.out]
  ·
   rw [HMP.out];exact OwnF.nil _ _ _ _ _
  first | exact hx0 | exact(((hx0.setCell (by simp) _).setCell (by simp) _).setCell (by simp) _).setCell (by simp) _
 obtain⟨h1,h2⟩:=Bk.1 hin;obtain⟨kk,rfl⟩:=Int.eq_ofNat_of_zero_le h1;have hk:kk<s.hops.length:=by omega
 have hmp:makePart s kind kk=mkPart s kind kk:=by unfold makePart;rw [if_pos (by simp [hin,hik]),Int.toNat_natCast]
 have HMP:=Ac hmp;clear hmp hin hik h1 h2;obtain⟨b,off,rfl,_⟩:=Ca r 0 (by omega)
 go_upto_region 3 with (fail)
 clear cb cz
 obtain⟨W0,hW0⟩:∃ W0:World,W0=((w.alloc (.cells #[.int .i64 s.ts,.int .i64 s.beta,.slice (some ⟨b,off,none⟩) s.hops.length cap] 116)).alloc (.cells #[.int .i64 0,.int .i64 0,.int .i64 0,.slice none 0 0] 99)):=⟨_,rfl⟩
 rw [← hW0] at HB hx0 ⊢
 have hs0:W0.heap.size=w.heap.size+2:=by rw [hW0];simp
 clear hW0
 go_cut [7] (fun v7 wx=>∃ (B7:Nat) (be:Int),v7=.pointer (some ⟨B7,0,none⟩)∧be=betaAt s kk∧wx.heap[B7]?=some (.cells #[.int .i64 kind,.int .i64 s.ts,.int .i64 be,.slice none 0 0] 99 (0,0))∧W0.heap.size≤B7∧Ext W0 wx)
 case first=>
  have cb:=blk3 HB.out.1;refine Ax (.blk [0,1,2,3,4] (.two 5 7 (.blk [6] (.one 7 (.one 8 .done))) (.one 5 (.blk [6] (.one 8 .done))))) [8] (by kernel_rfl) (by kernel_rfl) ?_;generalize hWd:W0.drew=wd;have hxd:Ext W0 wd:=by rw [← hWd];exact(Ab _).drew
  have cbd:=blk3 (hxd.block HB.out.1);clear hWd cb;refine blkStep (fun K HK=>?_);simp only [PK]
  go_wp2_with fail
  refine HK.out _ _ ?_;clear HK K;refine twoStep ?_ ?_
  ·
   refine oneStep (fun K HK=>?_);simp only [PK]
   go_wp2_with fail
   refine(s_BetaAt s _ (kk:Int) _ (r.ext (hx0.t hxd)) (by omega)).mono ?_;rintro e w1 ⟨rfl,h1⟩;generalize hbe:betaAt s kk=be;have HBE:=Ac hbe;clear hbe
   go_wp2_with fail
   refine HK.out _ _ h1 ?_;clear HK K;refine blkStep (fun K HK=>?_);simp only [PK]
   go_wp2_with fail
   refine HK.out _ _ ?_;clear HK K;refine oneStep (fun K HK=>?_);simp only [PK]
   go_wp2_with fail
   refine HK.out _ _ ((Ab _).alloc _) ?_;clear HK K;refine badStep (by kernel_rfl) (fun K HK=>?_);simp only [PK]
   go_wp2_with fail
   refine HK.out _ _ ?_;clear HK K;refine Ap (by kernel_rfl) ?_
   go_wp2_with fail
   go_meet
   exact⟨_,be,rfl,HBE.out.symm,blk_new w1 _,(hxd.trans h1).size,(hxd.trans h1).alloc _⟩
  have hbn:=blk_new wd (.cells #[.int .i64 0,.int .i64 0,.int .i64 0,.slice none 0 0] 99);refine oneStep (fun K HK=>?_);simp only [PK]
  go_wp2_with fail
  refine HK.out _ _ ((Ab _).alloc _) ?_;clear HK K;have hxa:Ext wd (wd.alloc (.cells #[.int .i64 0,.int .i64 0,.int .i64 0,.slice none 0 0] 99)):=(Ab _).alloc _;refine oneStep (fun K HK=>?_);simp only [PK]
  go_wp2_with fail
  refine(s_BetaAt s _ (kk:Int) _ (r.ext (hx0.trans (hxd.t hxa))) (by omega)).mono ?_;rintro e w1 ⟨rfl,h1⟩;generalize hbe:betaAt s kk=be;have HBE:=Ac hbe;clear hbe
  go_wp2_with fail
  refine HK.out _ _ h1 ?_;clear HK K;refine blkStep (fun K HK=>?_);simp only [PK]
  go_wp2_with fail
  refine HK.out _ _ ?_;clear HK K;have hb7:=h1.block hbn;have hlo:=hxd.size;have c7:=blk4 hb7;have f70:=fr_of hb7 0;have f71:=fr_of hb7 1;have f72:=fr_of hb7 2;have f73:=fr_of hb7 3;have HH7:=Ac hb7;refine badStep (by kernel_rfl) (fun K HK=>?_);simp only [PK]
  go_wp2_with fail
  refine HK.out _ _ ?_;clear HK K;refine Ap (by kernel_rfl) ?_
  go_wp2_with fail
  go_meet
  exact⟨_,be,rfl,HBE.out.symm,blk_set4 HH7.out _ _ _ _,hlo,ext_set4 ((hxd.t hxa).trans h1) hlo _ _ _ _⟩
 case rest=>
  obtain⟨B7,be,rfl,hbe,hb7,hle7,hxc⟩:=hcut;have HBE:=Ac hbe;have HB7:=Ac hb7;clear hbe hb7;have hlt7:B7<wc.heap.size:=blk_lt HB7.out
  go_wp2_with fail
  refine(s_IsReversed kind _).mono ?_;rintro e _ ⟨rfl,rfl⟩
  cases hrv:isRev kind
  ·
   have hmk:mkPart s kind kk=⟨kind,s.ts,be,s.hops.drop kk⟩:=by unfold mkPart;rw [hrv,HBE.out];simp
   rw [hmk] at HMP;clear hmk;have hcp2:(kk:Int)≤cap:=by omega
   have hcp3:¬ cap=kk:=by omega
   obtain⟨dl,hdl⟩:∃ dl,dl=s.hops.drop kk:=⟨_,rfl⟩
   have hdn:dl.length=s.hops.length - kk:=by rw [hdl];simp
   have hcb:dl.length≤1000:=by omega
   have HDN:=Ac hdn;clear hdn;rw [← hdl] at HMP;have HDL:=Ac hdl;have cb:=blk3 (hxc.block HB.out.1);have RS:RdS Hop.rep wc (.slice (some ⟨b,off+kk * 5,none⟩) (s.hops.length - kk) (cap - kk)) dl:=by rw [hdl];exact(r.ext (hx0.t hxc)).suf kk (by omega)
   clear hdl;have cb2:=blk3 (Aa (hxc.alloc (.cells #[] 103)) HB.out.1)
   go_wp2_with (at_builtin;refine appE E Ao Hop.one rfl _ _ rfl dl rfl (Cg (f:=Hop.f) (n:=5) (base:=wc.heap.size) (by simp) (by omega)) rfl (RS.ext ((Ab _).alloc _)) (by omega) (by unfold maxLen;omega) (by simp) ?_)
   intro v' w' ho' hx';have hx2:Ext wc w':=((Ab wc).alloc _).t hx';have HO:=Ac ho';obtain⟨oo,co,rfl,_⟩:=(Bb (hf:=Ao) ho').shape;clear ho' cb cb2;have hb7':=hx2.block HB7.out;have c7:=blk4 hb7';have f73:=fr_of hb7' 3;obtain⟨w5,hw5,hb5,hc5⟩:=one_set hb7' 3 (.slice oo dl.length co);simp only [List.setIfInBounds_toArray,List.set_cons_succ,List.set_cons_zero] at hb5;have HW5:=Ac hw5;clear hw5 hb7'
   go_upto_region 6 with (fail)
   rw [← HW5.out];clear HW5 c7 f73;have ho5:=HO.out.chg hc5 (fun q hq e=>by have h1:=(HO.out.block q hq).1;have h2:q=B7:=e;omega);have hx5:Ext W0 w5:=(hxc.t hx2).chg hc5 (fun i hi=>by have h1:i=B7:=hi;omega);have c5:=blk4 hb5;have hb6:=hx5.block HB.out.2;have c6:=blk4 hb6;have g0:=fr4 hb6;clear HO
   go_wp2_with fail
   refine bodyPost_ret (by simp [results,Tryz.results84,go_sem,c6];rfl) rfl ⟨.slice oo dl.length co,?_,?_,?_⟩
   ·
    rw [HMP.out]
   ·
    rw [HMP.out];have hlo:w.heap.size+1<wc.heap.size:=by omega
    exact(((((ho5.set (by simp;omega) _).set (by simp;omega) _).set (by simp;omega) _).set (by simp;omega) _)).mono (by omega)
   exact((((hx0.t hx5).setCell (by simp) _).setCell (by simp) _).setCell (by simp) _).setCell (by simp) _
  have hmk:mkPart s kind kk=⟨kind,s.ts,betaAt s s.hops.length,(s.hops.drop kk).reverse⟩:=by unfold mkPart;rw [hrv];simp
  rw [hmk] at HMP;clear hmk;have cb:=blk3 (hxc.block HB.out.1);have c7:=blk4 HB7.out;have f72:=fr_of HB7.out 2
  go_wp2_with fail
  refine(s_BetaAt s _ (s.hops.length:Int) _ (r.ext (hx0.t hxc)) (by omega)).mono ?_;rintro e w1 ⟨rfl,h1⟩;generalize hb2:betaAt s s.hops.length=b2;have HB2:=Ac hb2;clear hb2 cb c7 f72;have hb7':=h1.block HB7.out;have cb:=blk3 ((hxc.trans h1).block HB.out.1);have c7:=blk4 hb7';have f72:=fr_of hb7' 2;obtain⟨w5,hw5,hb5,hc5⟩:=one_set hb7' 2 (.int .i64 b2);simp only [List.setIfInBounds_toArray,List.set_cons_succ,List.set_cons_zero] at hb5;have HW5:=Ac hw5;clear hw5 hb7'
  go_upto_region 8 with (fail)
  rw [← HW5.out];clear HW5 cb c7 f72;have hx5:Ext W0 w5:=(hxc.trans h1).chg hc5 (fun i hi=>by have h1:i=B7:=hi;omega);have hlt5:B7<w5.heap.size:=blk_lt hb5;have HB5:=Ac hb5;clear hb5 hc5 h1;have cb:=blk3 (hx5.block HB.out.1)
  go_wp2_with fail
  clear cb
  go_loopg [8] (s.hops.length - kk) (fun gk i wr=>i=.int .i64 ((gk:Int)+kk - 1)∧gk+kk≤s.hops.length∧(∃ ok ck,Hid (wr.heap[B7]?=some (.cells #[.int .i64 kind,.int .i64 s.ts,.int .i64 b2,.slice ok (s.hops.length - (gk+kk)) ck] 99 (0,0)))∧OwnF Hop.f 5 w5.heap.size 103 wr (.slice ok (s.hops.length - (gk+kk)) ck) (s.hops.drop (gk+kk)).reverse)∧w5.heap.size≤wr.heap.size∧Ext W0 wr)
  case atStart=>
   have e1:s.hops.length - kk+kk=s.hops.length:=by omega
   refine⟨congrArg (Value.int .i64) (by omega),by omega,⟨none,0,?_,?_⟩,Ae _,hx5⟩
   ·
    rw [e1,Nat.sub_self];exact HB5
   rw [e1,Nat.sub_self,List.drop_length];exact OwnF.nil _ _ _ _ _
  case round=>
   obtain⟨rfl,hkl,⟨ok,ck,HBk,hown⟩,hsw,hx⟩:=hrel;have hcb:=blk3 (hx.block HB.out.1);have hc3:=blk4 HBk.out
   cases gk with
   | zero =>
    have hcr:=blk4 (hx.block HB.out.2);have g0:=fr4 (hx.block HB.out.2);have hsz:=hx5.size;have e0:((0:Nat):Int)+(kk:Int) - 1=(kk:Int) - 1:=by omega
    rw [e0];simp only [Nat.zero_add] at hc3 hown
    go_wp2
    refine bodyPost_ret (by simp [results,Tryz.results84,go_sem,hcr];rfl) rfl ⟨.slice ok (s.hops.length - kk) ck,?_,?_,?_⟩
    ·
     rw [HMP.out,HB2.out]
    ·
     rw [HMP.out];exact(((((hown.set (by simp;omega) _).set (by simp;omega) _).set (by simp;omega) _).set (by simp;omega) _)).mono (by omega)
    exact((((hx0.t hx).setCell (by simp) _).setCell (by simp) _).setCell (by simp) _).setCell (by simp) _
   | succ j =>
    have hj:j+kk<s.hops.length:=by omega
    obtain⟨jj,hjj⟩:∃ jj,jj=j+kk:=⟨_,rfl⟩
    have e9:j+1+kk=jj+1:=by omega
    rw [e9] at hc3 hown HBk hkl;have e1:(((j+1:Nat):Int)+(kk:Int) - 1)=(jj:Int):=by omega
    rw [e1];rw [← hjj] at hj;have hkj:(kk:Int)≤(jj:Int):=by omega
    have HJJ:=Ac hjj;clear e1 e9 hjj;obtain⟨b',off',hbo,hc⟩:=Ca (r.ext (hx0.t hx)) jj hj
    cases hbo
    have hln:(s.hops.drop (jj+1)).reverse.length+1≤1048576:=by simp;omega
    have HE:=Ac (rev_drop hj);have hle:(s.hops.drop jj).reverse.length=(s.hops.drop (jj+1)).reverse.length+1:=by simp;omega
    have HLE:=Ac hle;clear hle;generalize (s.hops.drop (jj+1)).reverse=out at *;have hj0:(0:Int)≤(jj:Int):=Int.natCast_nonneg _;have hj1:(jj:Int)<(s.hops.length:Int):=by omega
    go_wp2_with fail
    refine Ax (.blk [0,1,2,3,4,5,6] (.one 7 (.one 8 (.blk [9] (.one 10 .done))))) [8,10] (by kernel_rfl) (by kernel_rfl) ?_;refine blkStep (fun K HK=>?_);simp only [PK]
    go_wp2_with fail
    refine HK.out _ _ ?_;clear HK K;refine oneStep (fun K HK=>?_);simp only [PK]
    go_wp2_with fail
    refine HK.out _ _ ((Ab _).alloc _) ?_;clear HK K;refine badStep (by kernel_rfl) (fun K HK=>?_);simp only [PK];refine app1 E Ao Hop.one rfl _ _ rfl s.hops[jj] rfl (Ay hown ((Ab _).drew.alloc _)) rfl (by exact Au s.hops[jj].f (blk_new wr _)) (by omega) (by unfold maxLen;omega) (by exact Ad hsw ((Ab wr).drew.alloc _).size) ?_;intro v' w' ho' hg';have hsw':w5.heap.size≤w'.heap.size:=Ad (Ad hsw ((Ab wr).drew.alloc _).size) hg'.size;have hx':=Ext.app (hx.drew.alloc _) hg' hown hx5.size;have hb3':=own_ne (Ay hown ((Ab _).drew.alloc _)) (Aa ((Ab _).drew.alloc _) HBk.out) (by decide) hg';rw [HE.out] at ho';obtain⟨on,cn,hve,_⟩:=(Bb (hf:=Ao) ho').shape;rw [show(s.hops.drop jj).reverse.length=s.hops.length - jj from by simp] at hve;subst hve;have c3':=blk4 hb3';have f3':=fr_of hb3' 3;have hb4:=blk_set hb3' 3 (.slice on (s.hops.length - jj) cn);simp only [List.setIfInBounds_toArray,List.set_cons_succ,List.set_cons_zero] at hb4;have HB4:=Ac hb4;clear hb4 hb3';have hx4:=hx'.setCell (p:=⟨B7,3,none⟩) (by simp;omega) (.slice on (s.hops.length - jj) cn);have HO4:=Ac (ho'.set (p:=⟨B7,3,none⟩) (by simpa using hlt5) (.slice on (s.hops.length - jj) cn));clear hg' ho'
    go_wp2_with fail
    refine HK.out _ _ ?_;clear HK K;refine blkStep (fun K HK=>?_);simp only [PK]
    go_wp2_with fail
    refine HK.out _ _ ?_;clear HK K;refine badStep (by kernel_rfl) (fun K HK=>?_);simp only [PK]
    go_wp2_with fail
    refine HK.out _ _ ?_;clear HK K;refine Ap (by kernel_rfl) ?_
    go_wp2_with fail
    go_roundg j
    case measure=>omega
    case rel=>exact⟨congrArg (Value.int .i64) (by have h1:=HJJ.out;omega),by have h1:=HJJ.out;omega,⟨on,cn,by rw [← HJJ.out];exact HB4,by rw [← HJJ.out];exact HO4.out⟩,by simpa using hsw',hx4⟩
theorem s_l22Meet (a b:Seg) (va vb:Value) (w:World) (ra:RdS Hop.rep w va a.hops) (rb:RdS Hop.rep w vb b.hops) (hla:a.hops.length≤1000) (hlb:b.hops.length≤1000) :
  Calls Tryz.prog 83 #[.agg #[.int .i64 a.ts,.int .i64 a.beta,va],.agg #[.int .i64 b.ts,.int .i64 b.beta,vb]] w fun e w'=>∃ (v:Value) (l:List Part),e=.returned (.agg #[v])∧(l=[]∨∃ i k:Nat,i<a.hops.length∧k<b.hops.length∧l=[makePart a 1 i,makePart b 4 k])∧Part.own.own (rng w.heap.size w'.heap.size) w' v l∧Ext w w':=by
 obtain⟨o_a,c_a,rfl,_⟩:=ra.shape;obtain⟨o_b,c_b,rfl,_⟩:=rb.shape;obtain⟨hx0,HB⟩:=ea3 w (.cells #[.int .i64 a.ts,.int .i64 a.beta,.slice o_a a.hops.length c_a] 116) (.cells #[.int .i64 b.ts,.int .i64 b.beta,.slice o_b b.hops.length c_b] 116) (.cells #[.slice none 0 0] 30);replace HB:=Ac HB
 obtain⟨W0,hW0⟩:∃ W0:World,W0=((w.alloc (.cells #[.int .i64 a.ts,.int .i64 a.beta,.slice o_a a.hops.length c_a] 116)).alloc (.cells #[.int .i64 b.ts,.int .i64 b.beta,.slice o_b b.hops.length c_b] 116)).alloc (.cells #[.slice none 0 0] 30):=⟨_,rfl⟩
 rw [← hW0] at HB hx0;have hs0:W0.heap.size=w.heap.size+3:=by rw [hW0];simp
 go_enter Tryz.func83,Tryz.ntmps83
 go_upto_region 1 with (fail)
 rw [← hW0];clear hW0;have cb:=blk3 HB.out.1
 go_wp2_with fail
 refine(s_SegmentASes a _ _ (ra.ext hx0) (by omega)).mono ?_;rintro e w1 ⟨v1,rfl,o1,h1⟩
 obtain⟨la,hla2⟩:∃ la,la=a.hops.map (·.asn):=⟨_,rfl⟩
 rw [← hla2] at o1;have HLA:Hid (la.length=a.hops.length):=Ac (by rw [hla2];simp);clear hla2;obtain⟨oa,ca,rfl,_⟩:=(Bo o1).shape;have r1:=Bo o1;clear o1 cb;have cb:=blk3 (h1.block HB.out.2.1)
 go_wp2_with fail
 refine(s_SegmentASes b _ _ (rb.ext (hx0.trans h1)) (by omega)).mono ?_;rintro e w2 ⟨v2,rfl,o2,h2⟩
 obtain⟨lb,hlb2⟩:∃ lb,lb=b.hops.map (·.asn):=⟨_,rfl⟩
 rw [← hlb2] at o2;have HLB:Hid (lb.length=b.hops.length):=Ac (by rw [hlb2];simp);clear hlb2;obtain⟨ob,cb',rfl,_⟩:=(Bo o2).shape;have r2:=Bo o2;clear o2 cb;have hx2:=h1.trans h2
 go_wp2_with fail
 go_loopg [7] la.length (fun gk i wr=>i=.int .i64 ((gk:Int) - 1)∧gk≤la.length∧Ext w2 wr)
 case atStart=>exact⟨rfl,Ae _,Ab _⟩
 case round=>
  obtain⟨rfl,hkl,hx⟩:=hrel
  cases gk with
  | zero =>
   have hb4:=(hx2.t hx).block HB.out.2.2;have c4:=blk1 hb4;have g0:=fr_of hb4 0;have hsz:=(hx2.t hx).size
   go_wp2
   refine bodyPost_ret (by simp [results,Tryz.results83,go_sem,c4];rfl) rfl ⟨_,[],rfl,.inl rfl,?_,?_⟩
   ·
    exact Own.mono _ (Part.own.nil _) (fun _ h=>h.elim)
   exact(hx0.trans (hx2.t hx)).setCell (by simp;omega) _
  | succ j =>
   have e1:(((j+1:Nat):Int) - 1)=(j:Int):=by omega
   rw [e1];clear e1;have hj0:(0:Int)≤(j:Int):=Int.natCast_nonneg _;have hj:j<la.length:=by omega
   obtain⟨ba,offa,rfl,ha⟩:=ints_at (r1.ext (h2.trans hx)) j hj
   go_wp2_with fail
   obtain⟨wo,hwo⟩:∃ wo:World,wo=wr:=⟨_,rfl⟩
   subst hwo
   go_loopg [8] lb.length (fun gk i wr=>i=.int .i64 ((gk:Int) - 1)∧gk≤lb.length∧Ext wo wr)
   case atStart=>exact⟨rfl,Ae _,Ab _⟩
   case round=>
    obtain⟨rfl,hml,hy⟩:=hrel
    cases gk with
    | zero =>
     go_wp2
     go_roundg j
     case measure=>omega
     case rel=>exact⟨rfl,by omega,hx.trans hy⟩
    | succ m =>
     have e2:(((m+1:Nat):Int) - 1)=(m:Int):=by omega
     rw [e2];clear e2;have hm0:(0:Int)≤(m:Int):=Int.natCast_nonneg _;have hm:m<lb.length:=by omega
     obtain⟨bb,offb,rfl,hb⟩:=ints_at (r2.ext (hx.trans hy)) m hm;have ha2:=hy.cell ha
     go_upto_region 9 with (fail)
     refine Ax (.blk [0,1,2,3,4,5,6,7,8] .done) [] (by kernel_rfl) (by kernel_rfl) ?_;have hxd:Ext wr wr.drew:=(Ab _).drew;generalize wr.drew=wd at hxd ⊢
     have ha3:=hxd.cell ha2;have hb3:=hxd.cell hb;have hja:(j:Int)<(la.length:Int):=by omega
     have hmb:(m:Int)<(lb.length:Int):=by omega
     refine blkStep (fun K HK=>?_);simp only [PK]
     go_wp2_with fail
     refine HK.out _ _ ?_;clear HK K;refine Ap (by kernel_rfl) ?_;have hx3:=hx2.trans (hx.trans (hy.trans hxd));clear ha hb ha2 ha3 hb3
     cases heq:(la[j] == lb[m])
     ·
      go_wp2_with fail
      go_roundg m
      case measure=>omega
      case rel=>exact⟨rfl,by omega,hy.trans hxd⟩
     go_upto_region 10 with (fail)
     clear r1 r2;refine Ax (.blk [0,1,3,4] (.one 2 (.one 5 (.one 6 (.blk [7] (.one 8 .done)))))) [8] (by kernel_rfl) (by kernel_rfl) ?_;replace hx3:=hx3.trans (Ab wd).drew;generalize wd.drew=we at hx3 ⊢
     have cb1:=blk3 (hx3.block HB.out.1);have cb2:=blk3 (hx3.block HB.out.2.1);refine blkStep (fun K HK=>?_);simp only [PK]
     go_wp2_with fail
     refine HK.out _ _ ?_;clear HK K;clear cb1 cb2;have hja2:=HLA.out;have hmb2:=HLB.out;refine oneStep (fun K HK=>?_);simp only [PK]
     go_wp2_with fail
     refine(s_MakePart a _ 1 (j:Int) _ (ra.ext (hx0.t hx3)) hla).mono ?_;rintro e wA ⟨uA,rfl,oA,hzA⟩
     obtain⟨pA,hpA⟩:∃ pA,pA=makePart a 1 j:=⟨_,rfl⟩
     rw [← hpA] at oA ⊢
     have HPA:=Ac hpA;clear hpA;obtain⟨o_p,c_p,rfl,_⟩:=(Bb (hf:=Ao) oA).shape
     go_wp2_with fail
     refine HK.out _ _ hzA ?_;clear HK K;refine oneStep (fun K HK=>?_);simp only [PK]
     go_wp2_with fail
     refine(s_MakePart b _ 4 (m:Int) _ (rb.ext (hx0.trans (hx3.t hzA))) hlb).mono ?_;rintro e wB ⟨uB,rfl,oB,hzB⟩
     obtain⟨pB,hpB⟩:∃ pB,pB=makePart b 4 m:=⟨_,rfl⟩
     rw [← hpB] at oB ⊢
     have HPB:=Ac hpB;clear hpB;obtain⟨o_q,c_q,rfl,_⟩:=(Bb (hf:=Ao) oB).shape
     go_wp2_with fail
     refine HK.out _ _ hzB ?_;clear HK K;have hx5:=hx3.trans (hzA.t hzB)
     have LIT:=nest_lit (w:=wB) (c:=Part.c) (hc:=Part.clen) (sub:=(·.hops)) (I:=Own.flat Hop.f 5 Ao 103) (e:=99) [⟨pA,.slice o_p pA.hops.length c_p,rng we.heap.size wA.heap.size⟩,⟨pB,.slice o_q pB.hops.length c_q,rng wA.heap.size wB.heap.size⟩] we.heap.size (hzA.t hzB).size (by simp [maxLen])
      (fun q hq => by
       have sA := hzA.size; have sB := hzB.size
       rcases List.mem_cons.1 hq with rfl | hq
       ·
        exact ⟨Aj (O := Own.flat Hop.f 5 Ao 103) (Own.ofF oA) hzB, fun b hb => ⟨hb.1, Ak hb.2 sB⟩⟩
       obtain rfl := List.mem_singleton.1 hq
       exact ⟨Own.ofF oB, fun b hb => ⟨Ad sA hb.1, hb.2⟩⟩)
      (fun i j hi hj hne b h1 h2 => by
       have k1 : i = 0 ∨ i = 1 := by simp at hi; omega
       have k2 : j = 0 ∨ j = 1 := by simp at hj; omega
       rcases k1 with rfl | rfl <;> rcases k2 with rfl | rfl
       ·
        exact hne rfl
       ·
        have a1 := h1.2; have a2 := h2.1; omega
       ·
        have a1 := h1.1; have a2 := h2.2; omega
       exact hne rfl)
     have HLIT:=Ac LIT;clear LIT oA oB;refine oneStep (fun K HK=>?_);simp only [PK]
     go_wp2_with fail
     refine HK.out _ _ ((Ab _).alloc _) ?_;clear HK K;refine blkStep (fun K HK=>?_);simp only [PK]
     go_wp2_with fail
     refine HK.out _ _ ?_;clear HK K
     obtain⟨LW,hLW⟩:∃ LW:World,LW=wB.alloc (.cells #[.int .i64 pA.kind,.int .i64 pA.ts,.int .i64 pA.beta,.slice o_p pA.hops.length c_p,.int .i64 pB.kind,.int .i64 pB.ts,.int .i64 pB.beta,.slice o_q pB.hops.length c_q] 99):=⟨_,rfl⟩
     have hxL:Ext wB LW:=by rw [hLW];exact(Ab _).alloc _
     have HL2:Hid (Part.own.own (rng we.heap.size (wB.heap.size+1)) LW (.slice (some ⟨wB.heap.size,0,none⟩) 2 2) [pA,pB]):=Ac (by rw [hLW];exact HLIT.out);rw [← hLW];have hsL:LW.heap.size=wB.heap.size+1:=by rw [hLW];simp
     clear hLW HLIT;have hx6:=hx5.trans hxL;have hb4:=hx6.block HB.out.2.2;have c4:=blk1 hb4;have g0:=fr_of hb4 0;have hsz:=hx3.size;refine badStep (by kernel_rfl) (fun K HK=>?_);simp only [PK]
     go_wp2_with fail
     refine HK.out _ _ ?_;clear HK K;refine Ap (by kernel_rfl) ?_
     go_wp2_with fail
     refine bodyPost_ret (by simp [results,Tryz.results83,go_sem,c4];rfl) rfl ⟨_,[pA,pB],rfl,.inr ⟨j,m,by omega,by omega,by rw [HPA.out,HPB.out]⟩,?_,?_⟩
     ·
      have hset:Chg (at1 (w.heap.size+1+1)) LW (LW.setCell ⟨w.heap.size+1+1,0,none⟩ (.slice (some ⟨wB.heap.size,0,none⟩) 2 2)):=Bw (S:=at1 (w.heap.size+1+1)) (p:=⟨w.heap.size+1+1,0,none⟩) (Bq _ _) rfl _;exact Own.mono _ (Af HL2.out hset (.inl (by omega))) (fun b hb=>⟨by have h1:=hb.1;omega,by have h1:=hb.2;simp;omega⟩)
     exact(hx0.t hx6).setCell (by simp;omega) _
end
end Go.Proofs.YteodlcpeoaggbaaGreat
