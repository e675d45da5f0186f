/- The walk of the law on old packets: program and reference agree on what reaches and what works; a path that works has not expired, and behind its expiry nothing passes. No condition. -/
import Derived.Test.YteodlcpeoaggbaaGreatKVxW29o
import Derived.Test.YteodlcpeoaggbaaGreatKVxW22y
import Derived.Test.YteodlcpeoaggbaaGreatKV27
import Derived.Test.YteodlcpeoaggbaaGreatKV36
import Derived.Test.YteodlcpeoaggbaaGreatKV37
namespace Go.Proofs.YteodlcpeoaggbaaGreat
section
open Go.ChangeShapes Go.WideShapes Go.ChangeAt Go.RowKit Go.Deep
theorem pths_small {L:List Pth} (h:∀ x∈L,PBd 3 x.parts):pthsN L≤22 * L.length∧∀ x∈L,x.size≤21:=by
 have hs:∀ x∈L,x.size≤21:=fun x hx=>by
  obtain⟨h1,h2⟩:=h x hx;have h3:=hopsN_len x.parts 6 h2;unfold Pth.size;omega
 refine⟨?_,hs⟩
 have h2:∀ l:List Pth,(∀ x∈l,x.size≤21)→pszN l≤21 * l.length:=by
  intro l hl
  induction l with
  | nil => simp [pszN]
  | cons y l ih =>
   have h3:=hl y (by simp);have h4:=ih (fun x hx=>hl x (by simp [hx]));unfold pszN at h4 ⊢
   simp only [List.map_cons,List.sum_cons,List.length_cons];omega
 have h3:=h2 L hs;unfold pthsN;omega
theorem wpIdx_mem {f:Pth→Bool} {l:List Pth}:∀ {k:Nat} {x:Int},x∈wpIdx f l k→∃ (m:Nat) (hm:m<l.length),x=(m:Int)∧f l[m]=true
 | 0, x, h => by simp [wpIdx] at h
 | k + 1, x, h => by
  by_cases hk:k<l.length
  ·
   cases hf:f l[k]
   ·
    rw [wpIdx_no hk hf] at h;exact wpIdx_mem h
   rw [wpIdx_yes hk hf] at h
   rcases List.mem_append.1 h with h | h
   ·
    exact wpIdx_mem h
   exact⟨k,hk,by simpa using h,hf⟩
  have e:wpIdx f l (k+1)=wpIdx f l k:=by simp [wpIdx,List.getElem?_eq_none (Nat.le_of_not_lt hk)]
  rw [e] at h;exact wpIdx_mem h
theorem reaches_usable {t:Topo} {now:Int} {dead:List Int} {p:Pth} (h:reaches t now dead p=true):usable t p now=true:=by
 unfold reaches at h;exact reach_usable (by simpa using h)
theorem work_good {t:Topo} {now:Int} {dead:List Int} {l:List Pth} {x:Int} (h:x∈workPaths t now dead l):∃ (m:Nat) (hm:m<l.length),x=(m:Int)∧usable t l[m] now=true∧¬ pathExp l[m]<now:=by
 obtain⟨m,hm,e,hr⟩:=wpIdx_mem h;have hu:=reaches_usable hr;have h1:=reach_exp hu;exact⟨m,hm,e,hu,by omega⟩
theorem usable_exp {t:Topo} {p:Pth} {now:Int} (hu:usable t p now=true):0≤pathExp p∧pathExp p≤1000000:=by
 have G:=good_of_simple (usable_of hu).1;obtain⟨x,hx,e⟩:=least_mem (usable_in hu).2;obtain⟨q,hq,hxq⟩:=List.mem_flatMap.1 hx;obtain⟨j,hj,rfl⟩:=List.getElem_of_mem hq;obtain⟨i,hi,rfl⟩:=List.getElem_of_mem hxq;have h1:=G.vh j hj i (by rw [Cf hj];exact hi);rw [Cf hj,Bz hi] at h1;unfold validHop at h1;simp only [Bool.and_eq_true] at h1;have h2:=Bk.1 h1.1.2;unfold pathExp;rw [e];exact h2
theorem not_after (t:Topo) (dead:List Int) (p:Pth):reaches t (wrap64 (pathExp p+1)) dead p=false:=by
 cases h:reaches t (wrap64 (pathExp p+1)) dead p
 ·
  rfl
 have hu:=reaches_usable h;have h1:=reach_exp hu;have h2:=usable_exp hu;have h3:wrap64 (pathExp p+1)=pathExp p+1:=by unfold wrap64;omega
 omega
set_option maxRecDepth 100000 in
set_option maxHeartbeats 60000000 in
theorem l_FnOld (code:List Int) (cv:Value) (w:World) (hr:RdS Rep.byte w cv code) (hu:∀ x∈code,U8 x) :
  Calls Tryz.prog 4 #[cv] w fun e w'=>e=.returned (.bool true)∧Ext w w':=by
 obtain⟨co,cc,rfl,_⟩:=hr.shape
 by_cases hbig:1048576<code.length
 ·
  have hb1:decide (1048576<code.length)=true:=by simpa using hbig
  have HB1:=Ac hb1;clear hb1
  go_enter Tryz.func4,Tryz.ntmps4
  go_wp2_with fail
  refine(l_big code _ _ hr).mono ?_;rintro e _ ⟨rfl,rfl⟩;rw [HB1.out]
  go_wp2_with fail
  go_ret
  exact⟨rfl,Ab _⟩
 have hb1:decide (1048576<code.length)=false:=by simpa using hbig
 have hl:code.length≤1048576:=by omega
 have HB1:=Ac hb1;clear hb1 hbig
 go_enter Tryz.func4,Tryz.ntmps4
 go_wp2_with fail
 refine(l_big code _ _ hr).mono ?_;rintro e _ ⟨rfl,rfl⟩;rw [HB1.out]
 go_wp2_with fail
 refine(s_DrawPath code _ _ (hr.ext (Ab _)) hu hl).mono ?_;rintro e w1 ⟨v1,v2,vp,t,p,rfl,TK,PDr,rA,rL,rP,hz1⟩;obtain⟨o_A,c_A,rfl,_⟩:=rA.shape;obtain⟨o_L,c_L,rfl,_⟩:=rL.shape;obtain⟨o_P,c_P,rfl,_⟩:=rP.shape;have hps:=PDr.size;have hts:t.size≤1048576:=by have h1:=TK.n8;have h2:=TK.few;unfold Topo.size;omega
 obtain⟨hx1,HB1⟩:=ea2 w1 (.cells #[.slice o_A t.ases.length c_A,.slice o_L t.links.length c_L] 27) (.cells #[.slice o_P p.parts.length c_P] 30);replace HB1:=Ac HB1;have cf1:=blk2 HB1.out.1;have cf2:=blk1 HB1.out.2
 go_wp2_with fail
 refine(i_PathExpiry p _ _ (rP.ext hx1) (by omega)).mono ?_;rintro e w2 ⟨rfl,hz2⟩;have HOLD:=Ac (not_after t [] p);generalize pathExp p=n at HOLD ⊢
 try clear cf1
 try clear cf2
 have cf3:=blk2 (Aa hz2 HB1.out.1);have cf4:=blk1 (Aa hz2 HB1.out.2)
 go_wp2_with fail
 refine(s_DrawWorkingPaths code _ _ (hr.ext ((hz1.t hx1).t hz2)) hu hl).mono ?_;rintro e w3 ⟨v1,v2,vd,vp,v,dead,P,rfl,TKv,hP6,hPb,rB,rM,rD,rQ,hz3⟩;obtain⟨o_B,c_B,rfl,_⟩:=rB.shape;obtain⟨o_M,c_M,rfl,_⟩:=rM.shape;obtain⟨o_D,c_D,rfl,_⟩:=rD.shape;obtain⟨o_Q,c_Q,rfl,_⟩:=rQ.shape;have hvs:v.size≤1048576:=by have h1:=TKv.n8;have h2:=TKv.few;unfold Topo.size;omega
 obtain⟨hPs,hPz⟩:=pths_small hPb;clear hPb;obtain⟨hx2,HB2⟩:=ea1 w3 (.cells #[.slice o_B v.ases.length c_B,.slice o_M v.links.length c_M] 27);replace HB2:=Ac HB2
 try clear cf3
 try clear cf4
 have cf5:=blk2 (Aa ((hz2.t hz3).t hx2) HB1.out.1);have cf6:=blk1 (Aa ((hz2.t hz3).t hx2) HB1.out.2);have cf7:=blk2 HB2.out
 go_wp2_with fail
 refine(i_WorkingPaths v _ _ 50 dead _ P _ _ (rB.ext hx2) (rM.ext hx2) (rD.ext hx2) (rQ.ext hx2) hvs (by omega)).mono ?_;rintro e w4 ⟨vX,rfl,OX,hz4⟩
 obtain⟨X,hX⟩:∃ X,X=workPaths v 50 dead P:=⟨_,rfl⟩
 rw [← hX] at OX;have HX:=Ac hX;clear hX;have rX:=Bo OX;clear OX;obtain⟨o_X,c_X,rfl,_⟩:=rX.shape
 try clear cf5
 try clear cf6
 try clear cf7
 have cf8:=blk2 (Aa (((hz2.t hz3).t hx2).t hz4) HB1.out.1);have cf9:=blk1 (Aa (((hz2.t hz3).t hx2).t hz4) HB1.out.2);have cf10:=blk2 (Aa hz4 HB2.out)
 go_wp2_with fail
 refine(s_DrawReaches code _ _ (hr.ext (((((hz1.t hx1).t hz2).t hz3).t hx2).t hz4)) hu hl).mono ?_;rintro e w5 ⟨v1,v2,ve,u0,u,when,gone,q,rfl,TKu,hqs,rC,rN,rE,rU,hz5⟩;obtain⟨o_C,c_C,rfl,_⟩:=rC.shape;obtain⟨o_N,c_N,rfl,_⟩:=rN.shape;obtain⟨o_E,c_E,rfl,_⟩:=rE.shape;obtain⟨o_U,c_U,rfl,_⟩:=rU.shape;have hus:u.size≤1048576:=by have h1:=TKu.n8;have h2:=TKu.few;unfold Topo.size;omega
 obtain⟨hx3,HB3⟩:=ea2 w5 (.cells #[.slice o_C u.ases.length c_C,.slice o_N u.links.length c_N] 27) (.cells #[.slice o_U q.parts.length c_U] 30);replace HB3:=Ac HB3
 obtain⟨re,hre⟩:∃ c,c=reaches u when gone q:=⟨_,rfl⟩
 have HRE:=Ac hre;clear hre;have hne1:(re != re)=false:=by simp
 try clear cf8
 try clear cf9
 try clear cf10
 have cf11:=blk2 (Aa (((((hz2.t hz3).t hx2).t hz4).t hz5).t hx3) HB1.out.1);have cf12:=blk1 (Aa (((((hz2.t hz3).t hx2).t hz4).t hz5).t hx3) HB1.out.2);have cf13:=blk2 (Aa ((hz4.t hz5).t hx3) HB2.out);have cf14:=blk2 HB3.out.1;have cf15:=blk1 HB3.out.2;have HC1_1:=Ac (Aa (((((hz2.t hz3).t hx2).t hz4).t hz5).t hx3) HB1.out.1);have HC1_2:=Ac (Aa (((((hz2.t hz3).t hx2).t hz4).t hz5).t hx3) HB1.out.2);have HC1_3:=Ac (Aa ((hz4.t hz5).t hx3) HB2.out);replace rA:=rA.ext ((((((hx1.t hz2).t hz3).t hx2).t hz4).t hz5).t hx3);replace rL:=rL.ext ((((((hx1.t hz2).t hz3).t hx2).t hz4).t hz5).t hx3);replace rP:=rP.ext ((((((hx1.t hz2).t hz3).t hx2).t hz4).t hz5).t hx3);replace rB:=rB.ext (((hx2.t hz4).t hz5).t hx3);replace rM:=rM.ext (((hx2.t hz4).t hz5).t hx3);replace rD:=rD.ext (((hx2.t hz4).t hz5).t hx3);replace rQ:=rQ.ext (((hx2.t hz4).t hz5).t hx3);replace rX:=rX.ext (hz5.t hx3);replace rC:=rC.ext hx3;replace rN:=rN.ext hx3;replace rE:=rE.ext hx3;replace rU:=rU.ext hx3
 have hq1:=(((((((hz1.t hx1).t hz2).t hz3).t hx2).t hz4).t hz5).t hx3)
 go_wp2_with fail
 refine Ax (.blk [0,1,2,3,4] (.one 5 (.one 6 (.blk [7,8,9,10,11,12,14,15,16,17] (.one 13 (.one 18 (.blk [19,20] .done))))))) [] (by kernel_rfl) (by kernel_rfl) ?_
 try clear cf11
 try clear cf12
 try clear cf13
 try clear cf14
 try clear cf15
 have cf16:=blk2 (Aa ((Ab _).drew) HC1_1.out);have cf17:=blk1 (Aa ((Ab _).drew) HC1_2.out);have cf18:=blk2 (Aa ((Ab _).drew) HC1_3.out);have cf19:=blk2 (Aa ((Ab _).drew) HB3.out.1);have cf20:=blk1 (Aa ((Ab _).drew) HB3.out.2);refine blkStep (fun K HK=>?_);simp only [PK]
 go_wp2_with fail
 refine HK.out _ _ ?_;clear HK K;refine oneStep (fun K HK=>?_);simp only [PK]
 go_wp2_with fail
 refine(s_WorkingPaths v _ _ 50 dead _ P _ _ (rB.ext ((Ab _).drew)) (rM.ext ((Ab _).drew)) (rD.ext ((Ab _).drew)) (rQ.ext ((Ab _).drew)) hvs (by omega)).mono ?_;rintro e w6 ⟨vY,rfl,OY,hz6⟩;rw [← HX.out] at OY;have rY:=Bo OY;clear OY;obtain⟨o_Y,c_Y,rfl,_⟩:=rY.shape
 try clear cf16
 try clear cf17
 try clear cf18
 try clear cf19
 try clear cf20
 have cf21:=blk2 (Aa (((Ab _).drew).t hz6) HC1_1.out);have cf22:=blk1 (Aa (((Ab _).drew).t hz6) HC1_2.out);have cf23:=blk2 (Aa (((Ab _).drew).t hz6) HC1_3.out);have cf24:=blk2 (Aa (((Ab _).drew).t hz6) HB3.out.1);have cf25:=blk1 (Aa (((Ab _).drew).t hz6) HB3.out.2)
 go_wp2_with fail
 refine HK.out _ _ hz6 ?_;clear HK K;refine oneStep (fun K HK=>?_);simp only [PK]
 go_wp2_with fail
 refine(l_sameInts X _ X _ _ (rX.ext (((Ab _).drew).t hz6)) (rY.ext (Ab _))).mono ?_;rintro e w7 ⟨rfl,hz7⟩;rw [show decide (X=X)=true by simp]
 try clear cf21
 try clear cf22
 try clear cf23
 try clear cf24
 try clear cf25
 have cf26:=blk2 (Aa ((((Ab _).drew).t hz6).t hz7) HC1_1.out);have cf27:=blk1 (Aa ((((Ab _).drew).t hz6).t hz7) HC1_2.out);have cf28:=blk2 (Aa ((((Ab _).drew).t hz6).t hz7) HC1_3.out);have cf29:=blk2 (Aa ((((Ab _).drew).t hz6).t hz7) HB3.out.1);have cf30:=blk1 (Aa ((((Ab _).drew).t hz6).t hz7) HB3.out.2)
 go_wp2_with fail
 refine HK.out _ _ hz7 ?_;clear HK K;refine blkStep (fun K HK=>?_);simp only [PK]
 go_wp2_with fail
 refine HK.out _ _ ?_;clear HK K;refine oneStep (fun K HK=>?_);simp only [PK]
 go_wp2_with fail
 refine(i_Reaches u _ _ when gone _ q _ _ (rC.ext ((((Ab _).drew).t hz6).t hz7)) (rN.ext ((((Ab _).drew).t hz6).t hz7)) (rE.ext ((((Ab _).drew).t hz6).t hz7)) (rU.ext ((((Ab _).drew).t hz6).t hz7)) hus hqs).mono ?_;rintro e w8 ⟨rfl,hz8⟩;rw [← HRE.out]
 try clear cf26
 try clear cf27
 try clear cf28
 try clear cf29
 try clear cf30
 have cf31:=blk2 (Aa (((((Ab _).drew).t hz6).t hz7).t hz8) HC1_1.out);have cf32:=blk1 (Aa (((((Ab _).drew).t hz6).t hz7).t hz8) HC1_2.out);have cf33:=blk2 (Aa (((((Ab _).drew).t hz6).t hz7).t hz8) HC1_3.out);have cf34:=blk2 (Aa (((((Ab _).drew).t hz6).t hz7).t hz8) HB3.out.1);have cf35:=blk1 (Aa (((((Ab _).drew).t hz6).t hz7).t hz8) HB3.out.2)
 go_wp2_with fail
 refine HK.out _ _ hz8 ?_;clear HK K;refine oneStep (fun K HK=>?_);simp only [PK]
 go_wp2_with fail
 refine(s_Reaches u _ _ when gone _ q _ _ (rC.ext (((((Ab _).drew).t hz6).t hz7).t hz8)) (rN.ext (((((Ab _).drew).t hz6).t hz7).t hz8)) (rE.ext (((((Ab _).drew).t hz6).t hz7).t hz8)) (rU.ext (((((Ab _).drew).t hz6).t hz7).t hz8)) hus hqs).mono ?_;rintro e w9 ⟨rfl,hz9⟩;rw [← HRE.out]
 try clear cf31
 try clear cf32
 try clear cf33
 try clear cf34
 try clear cf35
 have cf36:=blk2 (Aa ((((((Ab _).drew).t hz6).t hz7).t hz8).t hz9) HC1_1.out);have cf37:=blk1 (Aa ((((((Ab _).drew).t hz6).t hz7).t hz8).t hz9) HC1_2.out);have cf38:=blk2 (Aa ((((((Ab _).drew).t hz6).t hz7).t hz8).t hz9) HC1_3.out);have cf39:=blk2 (Aa ((((((Ab _).drew).t hz6).t hz7).t hz8).t hz9) HB3.out.1);have cf40:=blk1 (Aa ((((((Ab _).drew).t hz6).t hz7).t hz8).t hz9) HB3.out.2)
 go_wp2_with fail
 refine HK.out _ _ hz9 ?_;clear HK K;refine blkStep (fun K HK=>?_);simp only [PK]
 go_wp2_with fail
 refine HK.out _ _ ?_;clear HK K;refine Ap (by kernel_rfl) ?_;clear hne1
 try clear cf36
 try clear cf37
 try clear cf38
 try clear cf39
 try clear cf40
 have cf41:=blk2 (Aa ((((((Ab _).drew).t hz6).t hz7).t hz8).t hz9) HC1_1.out);have cf42:=blk1 (Aa ((((((Ab _).drew).t hz6).t hz7).t hz8).t hz9) HC1_2.out);have cf43:=blk2 (Aa ((((((Ab _).drew).t hz6).t hz7).t hz8).t hz9) HC1_3.out);have HC2_1:=Ac (Aa ((((((Ab _).drew).t hz6).t hz7).t hz8).t hz9) HC1_1.out);have HC2_2:=Ac (Aa ((((((Ab _).drew).t hz6).t hz7).t hz8).t hz9) HC1_2.out);have HC2_3:=Ac (Aa ((((((Ab _).drew).t hz6).t hz7).t hz8).t hz9) HC1_3.out);replace rA:=rA.ext ((((((Ab _).drew).t hz6).t hz7).t hz8).t hz9);replace rL:=rL.ext ((((((Ab _).drew).t hz6).t hz7).t hz8).t hz9);replace rP:=rP.ext ((((((Ab _).drew).t hz6).t hz7).t hz8).t hz9);replace rB:=rB.ext ((((((Ab _).drew).t hz6).t hz7).t hz8).t hz9);replace rM:=rM.ext ((((((Ab _).drew).t hz6).t hz7).t hz8).t hz9);replace rQ:=rQ.ext ((((((Ab _).drew).t hz6).t hz7).t hz8).t hz9);replace rX:=rX.ext ((((((Ab _).drew).t hz6).t hz7).t hz8).t hz9)
 have hq2:=(((((hq1.trans ((Ab _).drew)).trans hz6).trans hz7).trans hz8).trans hz9)
 go_wp2_with fail
 go_loopg [15] X.length (fun gk i wr=>∃ k:Nat,gk+k=X.length∧i=.int .i64 k∧Ext w9 wr)
 case atStart=>exact⟨0,by omega,rfl,Ab _⟩
 case round=>
  obtain⟨k,hgk,rfl,hx⟩:=hrel;have HGK:=Ac hgk;clear hgk;have hkl:k≤X.length:=by have h1:=HGK.out;omega
  by_cases hlt:k<X.length
  ·
   have hlt2:(k:Int)<(X.length:Int):=by omega
   obtain⟨b1,off1,hb1,hc1⟩:=ints_at (rX.ext hx) k hlt;obtain⟨m,hm,hxm,hum,hem⟩:=work_good (t:=v) (now:=50) (dead:=dead) (l:=P) (x:=X[k]) (by rw [← HX.out];exact List.getElem_mem hlt);obtain⟨b2,off2,v2,c2,hb2,hc2,hr2⟩:=Pth.at (rQ.ext hx) m hm;have hys:=hPz P[m] (List.getElem_mem hm)
   cases hb1
   cases hb2
   rw [hxm] at hc1;clear hxm;have hm2:(m:Int)<(P.length:Int):=by omega
   obtain⟨y,hy9⟩:∃ y,y=P[m]:=⟨_,rfl⟩
   rw [← hy9] at hc2 hr2 hum hem hys;clear hy9
   obtain⟨ey,hey⟩:∃ c,c=pathExp y:=⟨_,rfl⟩
   rw [← hey] at hem;have HEY:=Ac hey;have HUM:=Ac hum;clear hey hum
   try clear cf41
   try clear cf42
   try clear cf43
   have cf44:=blk2 (Aa hx HC2_1.out);have cf45:=blk1 (Aa hx HC2_2.out);have cf46:=blk2 (Aa hx HC2_3.out)
   go_wp2_with fail
   refine Ax (.blk [0,1,2,3,4,5,6,8] (.one 7 (.blk [9,10,11,12,13,14,15,16,17,18,19] (.one 20 (.blk [21,22] .done))))) [] (by kernel_rfl) (by kernel_rfl) ?_
   try clear cf44
   try clear cf45
   try clear cf46
   have cf47:=blk2 (Aa (hx.t ((Ab _).drew)) HC2_1.out);have cf48:=blk1 (Aa (hx.t ((Ab _).drew)) HC2_2.out);have cf49:=blk2 (Aa (hx.t ((Ab _).drew)) HC2_3.out);have cf50:=By ((Ab _).drew) hc1;have cf51:=By ((Ab _).drew) hc2;refine blkStep (fun K HK=>?_);simp only [PK]
   go_wp2_with fail
   refine HK.out _ _ ?_;clear HK K;refine oneStep (fun K HK=>?_);simp only [PK]
   go_wp2_with fail
   refine(i_PathExpiry y _ _ (hr2.ext ((Ab _).drew)) (by omega)).mono ?_;rintro e w10 ⟨rfl,hz10⟩;rw [← HEY.out]
   try clear cf47
   try clear cf48
   try clear cf49
   try clear cf50
   try clear cf51
   have cf52:=blk2 (Aa ((hx.t ((Ab _).drew)).t hz10) HC2_1.out);have cf53:=blk1 (Aa ((hx.t ((Ab _).drew)).t hz10) HC2_2.out);have cf54:=blk2 (Aa ((hx.t ((Ab _).drew)).t hz10) HC2_3.out);have cf55:=By (((Ab _).drew).t hz10) hc1;have cf56:=By (((Ab _).drew).t hz10) hc2
   go_wp2_with fail
   refine HK.out _ _ hz10 ?_;clear HK K;refine blkStep (fun K HK=>?_);simp only [PK]
   go_wp2_with fail
   refine HK.out _ _ ?_;clear HK K;refine oneStep (fun K HK=>?_);simp only [PK]
   go_wp2_with fail
   refine(i_PathUsable v _ _ y _ 50 _ (rB.ext ((hx.t ((Ab _).drew)).t hz10)) (rM.ext ((hx.t ((Ab _).drew)).t hz10)) (hr2.ext (((Ab _).drew).t hz10)) (by omega)).mono ?_;rintro e w11 ⟨rfl,hz11⟩;rw [HUM.out]
   try clear cf52
   try clear cf53
   try clear cf54
   try clear cf55
   try clear cf56
   have cf57:=blk2 (Aa (((hx.t ((Ab _).drew)).t hz10).t hz11) HC2_1.out);have cf58:=blk1 (Aa (((hx.t ((Ab _).drew)).t hz10).t hz11) HC2_2.out);have cf59:=blk2 (Aa (((hx.t ((Ab _).drew)).t hz10).t hz11) HC2_3.out);have cf60:=By ((((Ab _).drew).t hz10).t hz11) hc1;have cf61:=By ((((Ab _).drew).t hz10).t hz11) hc2
   go_wp2_with fail
   refine HK.out _ _ hz11 ?_;clear HK K;refine blkStep (fun K HK=>?_);simp only [PK]
   go_wp2_with fail
   refine HK.out _ _ ?_;clear HK K;refine Ap (by kernel_rfl) ?_
   go_wp2_with fail
   go_roundg (gk - 1)
   case measure=>have h1:=HGK.out;omega
   case rel=>exact⟨k+1,by have h1:=HGK.out;omega,congrArg (Value.int .i64) (by first | omega | (unfold wrap64;omega)),(((hx.t ((Ab _).drew)).t hz10).t hz11)⟩
  have hge:¬ (k:Int)<(X.length:Int):=by omega
  cases hp0:((p.parts.length:Int) == 0)
  ·
   have cfa:=blk1 (Aa (hx.trans ((Ab wr).alloc (.cells #[] 3))) HC2_2.out)
   try clear cf41
   try clear cf42
   try clear cf43
   have cf62:=blk2 (Aa hx HC2_1.out);have cf63:=blk1 (Aa hx HC2_2.out);have cf64:=blk2 (Aa hx HC2_3.out)
   go_wp2_with fail
   clear cfa;refine(i_Reaches t _ _ (wrap64 (n+1)) [] (.slice (some ⟨wr.heap.size,0,none⟩) 0 0) p _ _ (rA.ext (hx.t ((Ab _).alloc _))) (rL.ext (hx.t ((Ab _).alloc _))) (by exact Bb (hf:=intFlen) (Cg (f:=intF) (n:=1) (base:=0) (e:=3) (by simp) (Nat.zero_le _))) (rP.ext (hx.t ((Ab _).alloc _))) hts (by omega)).mono ?_;rintro e w12 ⟨rfl,hz12⟩;rw [HOLD.out]
   try clear cf62
   try clear cf63
   try clear cf64
   have cf65:=blk2 (Aa ((hx.t ((Ab _).alloc _)).t hz12) HC2_1.out);have cf66:=blk1 (Aa ((hx.t ((Ab _).alloc _)).t hz12) HC2_2.out);have cf67:=blk2 (Aa ((hx.t ((Ab _).alloc _)).t hz12) HC2_3.out)
   go_wp2_with fail
   go_ret
   exact⟨rfl,(((hq2.trans hx).trans ((Ab _).alloc _)).trans hz12)⟩
  try clear cf41
  try clear cf42
  try clear cf43
  have cf68:=blk2 (Aa hx HC2_1.out);have cf69:=blk1 (Aa hx HC2_2.out);have cf70:=blk2 (Aa hx HC2_3.out)
  go_wp2_with fail
  go_ret
  exact⟨rfl,(hq2.trans hx)⟩
end
end Go.Proofs.YteodlcpeoaggbaaGreat
