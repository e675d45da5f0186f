/- What these laws need: FnOld: Contracts of segments: their chaining values, codes and ASes; joins of segments. Contracts of what is checked of segments: the first hop that does not verify, ends, expiries, codes struck out. Rows of segments, and contracts over them that say no more than how many there are and how long they are: copies, those of an AS, those between two, whether one is among them. -/
import Derived.Test.YteodlcpeoaggbaaGreatKV16
import Derived.Test.YteodlcpeoaggbaaGreatKV29
namespace Go.Proofs.YteodlcpeoaggbaaGreat
section
open Go.ChangeShapes Go.WideShapes Go.ChangeAt Go.RowKit Go.Deep
set_option maxRecDepth 100000
set_option maxHeartbeats 8000000
theorem badFrom_no {t:Topo} {s:Seg} {k:Nat} (hk:k<s.hops.length) (h:verHop t s.ts (betaAt s k) s.hops[k]=false):badFrom t s (s.hops.length - k) k=k:=by
 obtain⟨n,hn⟩:∃ n,s.hops.length - k=n+1:=⟨s.hops.length - k - 1,by omega⟩
 rw [hn];unfold badFrom;rw [hopAt_get hk,h];simp
theorem badFrom_yes {t:Topo} {s:Seg} {k:Nat} (hk:k<s.hops.length) (h:verHop t s.ts (betaAt s k) s.hops[k]=true):badFrom t s (s.hops.length - k) k=badFrom t s (s.hops.length - (k+1)) (k+1):=by
 obtain⟨n,hn⟩:∃ n,s.hops.length - k=n+1:=⟨s.hops.length - k - 1,by omega⟩
 rw [hn,show s.hops.length - (k+1)=n by omega]
 conv=>lhs;unfold badFrom
 rw [hopAt_get hk,h];simp
theorem s_l9Copy (s:Seg) (v:Value) (w:World) (r:RdS Hop.rep w v s.hops) (hl:s.hops.length≤1048576) :
  Calls Tryz.prog 169 #[.agg #[.int .i64 s.ts,.int .i64 s.beta,v]] w fun e w'=>∃ v',e=.returned (.agg #[.int .i64 s.ts,.int .i64 s.beta,v'])∧OwnF Hop.f 5 w.heap.size 103 w' v' s.hops∧Ext w w':=by
 obtain⟨E⟩:=elemHop;obtain⟨o,cap,rfl,hsm⟩:=r.shape;obtain⟨hx0,HB0⟩:=ea2 w (.cells #[.int .i64 s.ts,.int .i64 s.beta,.slice o s.hops.length cap] 116) (.cells #[.int .i64 0,.int .i64 0,.slice none 0 0] 116);replace HB0:=Ac HB0
 go_enter Tryz.func169,Tryz.ntmps169
 obtain⟨W0,hW0⟩:∃ W0:World,W0=((w.alloc (.cells #[.int .i64 s.ts,.int .i64 s.beta,.slice o s.hops.length cap] 116)).alloc (.cells #[.int .i64 0,.int .i64 0,.slice none 0 0] 116)):=⟨_,rfl⟩
 rw [← hW0] at hx0 HB0;have hsz:W0.heap.size=w.heap.size+1+1:=by rw [hW0];simp
 have cf1:=blk3 HB0.out.1;have cf2:=blk3 HB0.out.2
 go_wp2_with fail
 rw [← hW0];clear hW0;have HSZ:=Ac hsz;clear hsz
 go_wp2_with fail
 refine wp_region_set (fun k=>k=w.heap.size+1∨W0.heap.size≤k) [([0,1,2,3,5,6],4),([],7),([8],9)] [] (by kernel_rfl) (by kernel_rfl) (by kernel_rfl) ?_;have q0:=ChgSW.c3 (S:=fun k=>k=w.heap.size+1∨W0.heap.size≤k) cf1 (by have h1:=HSZ.out;first | omega | (simp only;omega))
 try clear cf1
 try clear cf2
 simp only [wpBlocks,pickOps,List.filterMap_cons,List.filterMap_nil,List.getElem?_toArray,List.getElem?_cons_zero,List.getElem?_cons_succ]
 repeat (first | go_big_quiet_step (fail) | quiet_step (fail))
 refine wpQuiet_nil ?_
 go_wp2_with fail
 have hxd:Ext W0 (W0.drew.alloc (.cells #[] 103)):=(Ab W0).drew.alloc _;refine⟨⟨⟨_,Ar hxd⟩,rfl⟩,?_⟩
 repeat (first | go_big_quiet_step (fail) | quiet_step (fail))
 refine wpQuiet_nil ?_;refine appE (g:=W0.heap.size) E Ao Hop.one rfl _ _ rfl s.hops rfl (Bj Hop.f 5 W0.heap.size 103 W0.drew (by simp)) rfl (r.ext (hx0.t hxd)) (by omega) (by unfold maxLen;omega) (by simp) ?_;intro v2 w2 oq hz2;have hxq:=hxd.trans hz2;have HX3:=Ac hxq;have HRB:=Ac (Aa hxq HB0.out.2);have HO3:=Ac (oq.mono (base':=w.heap.size) (by have h1:=HSZ.out;omega));obtain⟨o',c',rfl,_⟩:=(Bb (hf:=Ao) oq).shape;clear oq
 go_wp2_with fail
 refine⟨⟨⟨_,Ar hxq⟩,rfl⟩,?_⟩
 repeat (first | go_big_quiet_step (fail) | quiet_step (fail))
 refine wpQuiet_nil ?_;have HR2:=Ac (blk_set3 HRB.out (.int .i64 s.ts) (.int .i64 s.beta) (.slice o' s.hops.length c'));have ff0:=fr3 HRB.out;have cR:=blk3 HRB.out
 go_wp2_with fail
 clear cR ff0;refine⟨⟨⟨_,?_⟩,rfl⟩,?_⟩
 ·
  exact Bw (p:=⟨w.heap.size+1,2,none⟩) (Bw (p:=⟨w.heap.size+1,1,none⟩) (Bw (p:=⟨w.heap.size+1,0,none⟩) (Ar HX3.out) (.inl rfl) _) (.inl rfl) _) (.inl rfl) _
 repeat (first | go_big_quiet_step (fail) | quiet_step (fail))
 refine wpQuiet_nil ?_;refine NoPanic.normal ?_;clear q0
 go_wp2_with fail
 have cc:=blk3 HR2.out;refine bodyPost_ret (by simp [results,Tryz.results169,go_sem,cc] <;> rfl) rfl ?_;exact⟨_,rfl,HO3.out.chg (S:=fun k=>k=w.heap.size+1) (Bw (S:=fun k=>k=w.heap.size+1) (p:=⟨w.heap.size+1,2,none⟩) (Bw (S:=fun k=>k=w.heap.size+1) (p:=⟨w.heap.size+1,1,none⟩) (Bw (S:=fun k=>k=w.heap.size+1) (p:=⟨w.heap.size+1,0,none⟩) (Bq _ _) rfl _) rfl _) rfl _) (fun k hk e=>HO3.out.ne HRB.out (by decide) (by rw [hk,e])),ext_set3 (hx0.trans HX3.out) (by omega) _ _ _⟩
def isTerm (s:Seg):Bool:=decide (0<s.hops.length) && ((hopAt s.hops (s.hops.length - 1)).eg == 0)
theorem s_FirstInvalidHop (t:Topo) (v1 v2:Value) (s:Seg) (v:Value) (w:World) (ha:RdS ASd.rep w v1 t.ases) (r:RdS Hop.rep w v s.hops) (hl:s.hops.length≤1048576) :
  Calls Tryz.prog 195 #[.agg #[v1,v2],.agg #[.int .i64 s.ts,.int .i64 s.beta,v]] w fun e w'=>e=.returned (.int .i64 (firstBad t s))∧Ext w w':=by
 obtain⟨o,cap,rfl,hsm⟩:=r.shape;obtain⟨hx0,HB0⟩:=ea2 w (.cells #[v1,v2] 27) (.cells #[.int .i64 s.ts,.int .i64 s.beta,.slice o s.hops.length cap] 116);replace HB0:=Ac HB0
 go_enter Tryz.func195,Tryz.ntmps195
 obtain⟨W0,hW0⟩:∃ W0:World,W0=((w.alloc (.cells #[v1,v2] 27)).alloc (.cells #[.int .i64 s.ts,.int .i64 s.beta,.slice o s.hops.length cap] 116)):=⟨_,rfl⟩
 rw [← hW0] at hx0 HB0;have cf1:=blk2 HB0.out.1;have cf2:=blk3 HB0.out.2
 go_wp2_with fail
 rw [← hW0];clear hW0
 go_loopg [5] s.hops.length (fun gk i wr=>∃ k:Nat,gk+k=s.hops.length∧i=.int .i64 k∧Hid (firstBad t s=badFrom t s (s.hops.length - k) k)∧Ext W0 wr)
 case atStart=>exact⟨0,by omega,rfl,Ac rfl,Ab _⟩
 case round=>
  obtain⟨k,hgk,rfl,HK,hx⟩:=hrel;have HGK:=Ac hgk;clear hgk;have hkl:k≤s.hops.length:=by have h1:=HGK.out;omega
  by_cases hlt:k<s.hops.length
  ·
   obtain⟨b,off,rfl,hc⟩:=Ca (r.ext (hx0.t hx)) k hlt;have h4:(k:Int)<(s.hops.length:Int):=by omega
   try clear cf1
   try clear cf2
   have cf3:=blk2 (Aa hx HB0.out.1);have cf4:=blk3 (Aa hx HB0.out.2)
   go_upto_region 4 with (fail)
   refine Ax (.blk [0,1,2,3,4,6,7,8,9,10] (.one 5 (.one 11 (.blk [12] .done)))) [] (by kernel_rfl) (by kernel_rfl) ?_
   try clear cf3
   try clear cf4
   have cf5:=blk2 (Aa (hx.t ((Ab _).drew)) HB0.out.1);have cf6:=blk3 (Aa (hx.t ((Ab _).drew)) HB0.out.2);have cf7:=Av ((Ab _).drew) hc;refine blkStep (fun K HKK=>?_);simp only [PK]
   go_wp2_with fail
   refine HKK.out _ _ ?_;clear HKK K;refine oneStep (fun K HKK=>?_);simp only [PK]
   go_wp2_with fail
   refine(s_BetaAt s _ (k:Int) _ (r.ext ((hx0.t hx).t ((Ab _).drew))) hl).mono ?_;rintro e w3 ⟨rfl,hzw3⟩
   go_wp2_with fail
   refine HKK.out _ _ hzw3 ?_;clear HKK K;generalize hbe:betaAt s k=be at *;have HBE:=Ac hbe;clear hbe;refine oneStep (fun K HKK=>?_);simp only [PK]
   go_wp2_with fail
   refine(s_VerifyHop t _ _ _ be s.hops[k] _ (ha.ext (((hx0.t hx).t ((Ab _).drew)).t hzw3))).mono ?_;rintro e w4 ⟨rfl,hzw4⟩
   go_wp2_with fail
   refine HKK.out _ _ hzw4 ?_;clear HKK K;refine blkStep (fun K HKK=>?_);simp only [PK]
   go_wp2_with fail
   refine HKK.out _ _ ?_;clear HKK K;refine Ap (by kernel_rfl) ?_;rw [← HBE.out];clear HBE
   cases b1:verHop t s.ts (betaAt s k) s.hops[k]
   ·
    have HE:=Ac (HK.out.trans (badFrom_no hlt b1))
    try clear cf5
    try clear cf6
    try clear cf7
    have cf8:=blk2 (Aa (((hx.t ((Ab _).drew)).t hzw3).t hzw4) HB0.out.1);have cf9:=blk3 (Aa (((hx.t ((Ab _).drew)).t hzw3).t hzw4) HB0.out.2);have cf10:=Av ((((Ab _).drew).t hzw3).t hzw4) hc
    go_wp2_with fail
    go_ret
    exact⟨ret_int HE.out.symm,((((hx0.t hx).t ((Ab _).drew)).t hzw3).t hzw4)⟩
   have HE:=Ac (HK.out.trans (badFrom_yes hlt b1))
   try clear cf5
   try clear cf6
   try clear cf7
   have cf11:=blk2 (Aa (((hx.t ((Ab _).drew)).t hzw3).t hzw4) HB0.out.1);have cf12:=blk3 (Aa (((hx.t ((Ab _).drew)).t hzw3).t hzw4) HB0.out.2);have cf13:=Av ((((Ab _).drew).t hzw3).t hzw4) hc
   go_wp2_with fail
   go_roundg (gk - 1)
   case measure=>have h1:=HGK.out;omega
   case rel=>exact⟨k+1,by have h1:=HGK.out;omega,congrArg (Value.int .i64) (by first | omega | (unfold wrap64;omega)),HE,(((hx.t ((Ab _).drew)).t hzw3).t hzw4)⟩
  obtain rfl:k=s.hops.length:=by omega
  have HE:Hid (firstBad t s = -1):=Ac (by have:=HK.out;rw [Nat.sub_self] at this;exact this)
  try clear cf1
  try clear cf2
  have cf14:=blk2 (Aa hx HB0.out.1);have cf15:=blk3 (Aa hx HB0.out.2)
  go_wp2_with fail
  go_ret
  exact⟨ret_int HE.out.symm,(hx0.t hx)⟩
theorem s_IsTerminated (s:Seg) (v:Value) (w:World) (r:RdS Hop.rep w v s.hops) :
  Calls Tryz.prog 166 #[.agg #[.int .i64 s.ts,.int .i64 s.beta,v]] w fun e w'=>e=.returned (.bool (isTerm s))∧Ext w w':=by
 obtain⟨o,cap,rfl,hsm⟩:=r.shape;obtain⟨hx0,HB0⟩:=ea1 w (.cells #[.int .i64 s.ts,.int .i64 s.beta,.slice o s.hops.length cap] 116);replace HB0:=Ac HB0
 go_enter Tryz.func166,Tryz.ntmps166
 have hl0:s.hops.length=0∨0<s.hops.length:=by omega
 rcases hl0 with hl0 | hl0
 ·
  obtain⟨ts,beta,hops⟩:=s;obtain rfl:hops=[]:=List.eq_nil_of_length_eq_zero hl0;have HE:=Ac (show isTerm ⟨ts,beta,[]⟩=false from rfl);clear hl0;have cf1:=blk3 HB0.out
  go_wp2_with fail
  go_ret
  exact⟨Ah HE.out.symm,hx0⟩
 have hlt:s.hops.length - 1<s.hops.length:=by omega
 obtain⟨b,off,rfl,hc⟩:=Ca (r.ext hx0) (s.hops.length - 1) hlt;have HE:=Ac (show isTerm s=(s.hops[s.hops.length - 1].eg == 0) by unfold isTerm;rw [Bz hlt,decide_eq_true hl0];rfl)
 obtain⟨m,hm⟩:∃ m,m=s.hops.length - 1:=⟨_,rfl⟩
 have hm1:(s.hops.length:Int) - 1=(m:Int):=by omega
 have hm2:m<s.hops.length:=by omega
 have h1:(0:Int)<(s.hops.length:Int):=by omega
 have hx:s.hops[s.hops.length - 1]=s.hops[m]:=by congr 1;omega
 rw [hx] at HE hc;rw [← hm] at hc;clear hx hm hlt;have cf2:=blk3 HB0.out
 go_wp2_with fail
 go_ret
 exact⟨Ah HE.out.symm,hx0⟩
def Seg.c (x:Seg) (v:Value):List Value:=[.int .i64 x.ts,.int .i64 x.beta,v]
theorem Seg.clen (x:Seg) (v:Value):(x.c v).length=3:=rfl
def Seg.rep:Rep Seg where
 cells:=3
 rd w cs x:=∃ v,cs=x.c v∧RdS Hop.rep w v x.hops
 len:=by rintro w cs a ⟨v,rfl,_⟩;rfl
 ext:=by rintro w w' cs a e ⟨v,rfl,h⟩;exact⟨v,rfl,h.ext e⟩
theorem Seg.at {w:World} {o:Option Addr} {m cap:Nat} {l:List Seg} (h:RdS Seg.rep w (.slice o m cap) l) (k:Nat) (hk:k<l.length) :
  ∃ b off oh ch, o = some ⟨b, off, none⟩ ∧ (w.cell? ⟨b, off + k * 3, none⟩ = some (.int .i64 l[k].ts) ∧ w.cell? ⟨b, off + k * 3 + 1, none⟩ = some (.int .i64 l[k].beta) ∧
   w.cell? ⟨b, off + k * 3 + 2, none⟩ = some (.slice oh l[k].hops.length ch)) ∧ RdS Hop.rep w (.slice oh l[k].hops.length ch) l[k].hops := by
 obtain⟨o',cap',hv,h1,h2,hn,h3⟩:=h;obtain⟨b,off,cs,ho,hc,v,rfl,hr⟩:=h3 k hk
 cases hv
 obtain⟨oh,ch,rfl,_⟩:=hr.shape;exact⟨b,off,oh,ch,ho,⟨hc 0 _ rfl,hc 1 _ rfl,hc 2 _ rfl⟩,hr⟩
theorem cell3_extS {w w':World} (x:Ext w w') {p0 p1 p2:Addr} {a b c:Value} (h:w.cell? p0=some a∧w.cell? p1=some b∧w.cell? p2=some c):w'.cell? p0=some a∧w'.cell? p1=some b∧w'.cell? p2=some c:=⟨By x h.1,By x h.2.1,By x h.2.2⟩
def SegsBd (n:Nat) (l:List Seg):Prop:=l.length≤n∧∀ x∈l,x.hops.length≤6
theorem SegsBd.at {n:Nat} {l:List Seg} (h:SegsBd n l) (k:Nat) (hk:k<l.length):l[k].hops.length≤6:=h.2 _ (List.getElem_mem hk)
theorem SegsBd.mono {n m:Nat} {l:List Seg} (h:SegsBd n l) (hm:n≤m):SegsBd m l:=⟨Ad h.1 hm,h.2⟩
theorem SegsBd.snoc {n:Nat} {l:List Seg} {x:Seg} (h:SegsBd n l) (hx:x.hops.length≤6):SegsBd (n+1) (l ++ [x]):=
 ⟨by have := h.1; simp; omega, fun y hy => by
  rcases List.mem_append.1 hy with h1 | h1
  ·
   exact h.2 y h1
  obtain rfl := List.mem_singleton.1 h1; exact hx⟩
def Seg.ownS:Own Seg:=Own.nest 3 Seg.c Seg.clen (·.hops) 116 (Own.flat Hop.f 5 Ao 103)
theorem Seg.ord {S:Nat→Prop} {w:World} {v:Value} {l:List Seg} (h:Seg.ownS.own S w v l):RdS Seg.rep w v l:=Seg.ownS.rd h
theorem Tryz.infoSeg:(Tryz.prog.info? 116).map (fun i=>(i.zero,i.size,i.bytes))=some (some (.agg #[.int .i64 0,.int .i64 0,.slice none 0 0]),3,40):=by kernel_rfl
theorem elemSeg:Nonempty (Elem Tryz.prog 106 116 3 40):=Elem.mk' Tryz.underlying106 Tryz.infoSeg rfl (by decide)
theorem seg_oneC (x:Seg) (o:Option Addr) (n c:Nat):∀ u∈Seg.c x (.slice o n c),u.oneCell'=true:=by
 intro u hu;simp only [Seg.c,List.mem_cons,List.not_mem_nil,or_false] at hu
 rcases hu with rfl | rfl | rfl <;> rfl
theorem segs_none (w:World):Seg.ownS.own (rng w.heap.size (w.alloc (.cells #[] 116)).heap.size) (w.alloc (.cells #[] 116)) (.slice (some ⟨w.heap.size,0,none⟩) 0 0) []:=by
 have h:=nest_lit (n:=3) (c:=Seg.c) (hc:=Seg.clen) (sub:=fun x:Seg=>x.hops) (e:=116) (I:=Own.flat Hop.f 5 Ao 103) (w:=w) [] w.heap.size (Ae _) (by simp) (by simp) (fun i j hi=>absurd hi (by simp));unfold Seg.ownS
 simpa using h
theorem s_LastAS (s:Seg) (v:Value) (w:World) (r:RdS Hop.rep w v s.hops) :
  Calls Tryz.prog 87 #[.agg #[.int .i64 s.ts,.int .i64 s.beta,v]] w fun e w'=>∃ n:Int,e=.returned (.int .i64 n)∧Ext w w':=by
 obtain⟨o,cap,rfl,hsm⟩:=r.shape;obtain⟨hx0,HB0⟩:=ea1 w (.cells #[.int .i64 s.ts,.int .i64 s.beta,.slice o s.hops.length cap] 116);replace HB0:=Ac HB0
 go_enter Tryz.func87,Tryz.ntmps87
 by_cases h0:s.hops.length=0
 ·
  have h01:((s.hops.length:Int) == 0)=true:=by rw [beq_iff_eq];omega
  clear h0;have cf1:=blk3 HB0.out
  go_wp2_with fail
  go_ret
  exact⟨_,rfl,hx0⟩
 have h01:((s.hops.length:Int) == 0)=false:=by rw [beq_eq_false_iff_ne];omega
 obtain⟨b,off,rfl,hc⟩:=Ca (r.ext hx0) (s.hops.length - 1) (by omega)
 obtain⟨hd,hhd⟩:∃ hd,hd=s.hops[s.hops.length - 1]:=⟨_,rfl⟩
 rw [← hhd] at hc;have hle:((s.hops.length - 1:Nat):Int)=(s.hops.length:Int) - 1:=by omega
 have hl1:(0:Int)≤(s.hops.length:Int) - 1:=by omega
 have hl2:((s.hops.length:Int) - 1).toNat=s.hops.length - 1:=by omega
 clear hhd;have cf2:=blk3 HB0.out
 go_wp2_with fail
 go_ret
 exact⟨_,rfl,hx0⟩
theorem s_l16All (l:List Seg) (v:Value) (n:Nat) (w:World) (r:RdS Seg.rep w v l) (hl:SegsBd n l) (hn:n≤1000) :
  Calls Tryz.prog 164 #[v] w fun e w'=>∃ (v':Value) (l':List Seg),e=.returned v'∧SegsBd n l'∧Seg.ownS.own (rng w.heap.size w'.heap.size) w' v' l'∧Ext w w':=by
 obtain⟨E⟩:=elemSeg;obtain⟨o,cap,rfl,hsm⟩:=r.shape
 go_enter Tryz.func164,Tryz.ntmps164
 have hno:=segs_none w;have hxe:Ext w (w.alloc (.cells #[] 116)):=(Ab _).alloc _
 go_wp2_with fail
 go_loopg [3,4] l.length (fun gk out i wr=>∃ (k:Nat) (L:List Seg),gk+k=l.length∧i=.int .i64 k∧SegsBd k L∧Seg.ownS.own (rng w.heap.size wr.heap.size) wr out L∧Ext w wr)
 case atStart=>exact⟨0,[],by omega,rfl,⟨Ae _,by simp⟩,by simpa only [nblk_alloc] using hno,hxe⟩
 case round=>
  clear hno hxe;obtain⟨k,L,hgk,rfl,hL,ho,hx⟩:=hrel;obtain⟨oq9,cq9,rfl,_⟩:=(Seg.ord ho).shape;have HGK:=Ac hgk;clear hgk;have hkl:k≤l.length:=by have h1:=HGK.out;omega
  have hLl:=hL.1;have hln:=hl.1
  by_cases hlt:k<l.length
  ·
   obtain⟨b,off,oh,ch,rfl,hc,hr⟩:=Seg.at (r.ext hx) k hlt;have hb6:=hl.at k hlt
   obtain⟨x,hx9⟩:∃ x,x=l[k]:=⟨_,rfl⟩
   rw [← hx9] at hc hr hb6;clear hx9
   go_wp2_with fail
   refine(s_l9Copy x _ _ (hr.ext (Ab _)) (by omega)).mono ?_;rintro e w1 ⟨vc,rfl,oc,hz1⟩;obtain⟨oo,co,rfl,_⟩:=(Bb (hf:=Ao) oc).shape;have hx9:Ext w1 (w1.alloc (.cells #[.int .i64 x.ts,.int .i64 x.beta,.slice oo x.hops.length co] 116)):=(Ab _).alloc _;have hb9:=blk3 (blk_new w1 (.cells #[.int .i64 x.ts,.int .i64 x.beta,.slice oo x.hops.length co] 116));have cf1:=cell3_extS (hz1.t hx9) hc;have HXA:=Ac ((hz1.t hx9).alloc (.cells #[.int .i64 x.ts,.int .i64 x.beta,.slice oo x.hops.length co] 116));have hsc:wr.heap.size≤wr.heap.size:=Ext.size (Ab _);have hi9:=Own.mono (Own.flat Hop.f 5 Ao 103) (Own.ofF (hf:=Ao) oc) (T:=rng wr.heap.size w1.heap.size) (fun q hq=>⟨Ad hsc hq.1,hq.2⟩)
   go_wp2_with (at_builtin;refine appN (lo:=w.heap.size) (w0:=wr) (c:=Seg.c) (hc:=Seg.clen) (sub:=(·.hops)) (I:=Own.flat Hop.f 5 Ao 103) E rfl _ _ rfl x (.slice oo x.hops.length co) (rng wr.heap.size w1.heap.size) (seg_oneC _ _ _ _) rfl ho HXA.out (Aj (O:=Own.flat Hop.f 5 Ao 103) hi9 (hx9.alloc _)) (fun q hq=>⟨hq.1,by have h1:=hq.2;simp;omega⟩) hx.size rfl (by exact Au (Seg.c x (.slice oo x.hops.length co)) (blk_new2 w1 _ _)) (by omega) (by unfold maxLen;omega) ?_)
   intro v' w' ho' hg' hvlo;have hx':=(hx.trans HXA.out).grown hg' hvlo;clear hg' hvlo hi9 ho
   try clear cf1
   go_wp2_with fail
   go_roundg (gk - 1)
   case measure=>have h1:=HGK.out;omega
   case rel=>exact⟨k+1,_,by have h1:=HGK.out;omega,congrArg (Value.int .i64) (by first | omega | (unfold wrap64;omega)),hL.snoc hb6,ho',hx'⟩
  go_wp2_with fail
  go_ret
  exact⟨_,L,rfl,hL.mono (by omega),Own.mono _ ho (fun q hq=>⟨by have h1:=hq.1;omega,hq.2⟩),hx⟩
theorem s_DownSegments (l:List Seg) (v v2:Value) (r9:Int) (n:Nat) (w:World) (r:RdS Seg.rep w v l) (hl:SegsBd n l) (hn:n≤1000) :
  Calls Tryz.prog 127 #[.agg #[v,v2],.int .i64 r9] w fun e w'=>∃ (v':Value) (l':List Seg),e=.returned v'∧SegsBd n l'∧Seg.ownS.own (rng w.heap.size w'.heap.size) w' v' l'∧Ext w w':=by
 obtain⟨E⟩:=elemSeg;obtain⟨o,cap,rfl,hsm⟩:=r.shape;obtain⟨hx0,HB0⟩:=ea1 w (.cells #[.slice o l.length cap,v2] 108);replace HB0:=Ac HB0
 obtain⟨W3,hW3⟩:∃ W3:World,W3=(w.alloc (.cells #[.slice o l.length cap,v2] 108)):=⟨_,rfl⟩
 have hs3:w.heap.size≤W3.heap.size:=by rw [hW3];exact hx0.size
 have hxb:=hx0;rw [← hW3] at hxb HB0;clear hx0
 go_enter Tryz.func127,Tryz.ntmps127
 go_upto_region 1 with (fail)
 rw [← hW3];clear hW3;have hno:=segs_none W3;have hxe:Ext W3 (W3.alloc (.cells #[] 116)):=(Ab _).alloc _;have cf1:=blk2 HB0.out
 go_wp2_with fail
 go_loopg [5,6] l.length (fun gk out i wr=>∃ (k:Nat) (L:List Seg),gk+k=l.length∧i=.int .i64 k∧SegsBd k L∧Seg.ownS.own (rng W3.heap.size wr.heap.size) wr out L∧Ext W3 wr)
 case atStart=>exact⟨0,[],by omega,rfl,⟨Ae _,by simp⟩,by simpa only [nblk_alloc] using hno,hxe⟩
 case round=>
  clear hno hxe;obtain⟨k,L,hgk,rfl,hL,ho,hx⟩:=hrel;obtain⟨oq9,cq9,rfl,_⟩:=(Seg.ord ho).shape;have HGK:=Ac hgk;clear hgk;have hkl:k≤l.length:=by have h1:=HGK.out;omega
  have hLl:=hL.1;have hln:=hl.1
  by_cases hlt:k<l.length
  ·
   obtain⟨b,off,oh,ch,rfl,hc,hr⟩:=Seg.at (r.ext (hxb.t hx)) k hlt;have hb6:=hl.at k hlt
   obtain⟨x,hx9⟩:∃ x,x=l[k]:=⟨_,rfl⟩
   rw [← hx9] at hc hr hb6;clear hx9
   try clear cf1
   have cf2:=blk2 (Aa hx HB0.out)
   go_wp2_with fail
   refine(s_LastAS x _ _ (hr.ext (Ab _))).mono ?_;rintro e w1 ⟨q,rfl,hz1⟩
   cases hq:(q == r9)
   ·
    try clear cf2
    have cf3:=blk2 (Aa (hx.t hz1) HB0.out);have cf4:=cell3_extS hz1 hc
    go_wp2_with fail
    go_roundg (gk - 1)
    case measure=>have h1:=HGK.out;omega
    case rel=>exact⟨k+1,L,by have h1:=HGK.out;omega,congrArg (Value.int .i64) (by first | omega | (unfold wrap64;omega)),hL.mono (Nat.le_succ _),Bg (Aj ho hz1) (Ae _),(hx.t hz1)⟩
   try clear cf2
   have cf5:=blk2 (Aa (hx.t hz1) HB0.out);have cf6:=cell3_extS hz1 hc
   go_wp2_with fail
   refine(s_l9Copy x _ _ (hr.ext hz1) (by omega)).mono ?_;rintro e w2 ⟨vc,rfl,oc,hz2⟩;obtain⟨oo,co,rfl,_⟩:=(Bb (hf:=Ao) oc).shape
   try clear cf5
   try clear cf6
   have cf7:=blk2 (Aa ((hx.t hz1).t hz2) HB0.out);have cf8:=cell3_extS (hz1.t hz2) hc;have HXA:=Ac ((hz1.t hz2).alloc (.cells #[.int .i64 x.ts,.int .i64 x.beta,.slice oo x.hops.length co] 116));have hsc:wr.heap.size≤w1.heap.size:=Ext.size hz1;have hi9:=Own.mono (Own.flat Hop.f 5 Ao 103) (Own.ofF (hf:=Ao) oc) (T:=rng wr.heap.size w2.heap.size) (fun q hq=>⟨Ad hsc hq.1,hq.2⟩)
   go_wp2_with (at_builtin;refine appN (lo:=W3.heap.size) (w0:=wr) (c:=Seg.c) (hc:=Seg.clen) (sub:=(·.hops)) (I:=Own.flat Hop.f 5 Ao 103) E rfl _ _ rfl x (.slice oo x.hops.length co) (rng wr.heap.size w2.heap.size) (seg_oneC _ _ _ _) rfl ho HXA.out (Aj (O:=Own.flat Hop.f 5 Ao 103) hi9 ((Ab _).alloc _)) (fun q hq=>⟨hq.1,by have h1:=hq.2;simp;omega⟩) hx.size rfl (by exact Au (Seg.c x (.slice oo x.hops.length co)) (blk_new w2 _)) (by omega) (by unfold maxLen;omega) ?_)
   intro v' w' ho' hg' hvlo;have hx':=(hx.trans HXA.out).grown hg' hvlo;clear hg' hvlo hi9 ho
   try clear cf7
   try clear cf8
   go_wp2_with fail
   go_roundg (gk - 1)
   case measure=>have h1:=HGK.out;omega
   case rel=>exact⟨k+1,_,by have h1:=HGK.out;omega,congrArg (Value.int .i64) (by first | omega | (unfold wrap64;omega)),hL.snoc hb6,ho',hx'⟩
  try clear cf1
  have cf9:=blk2 (Aa hx HB0.out)
  go_wp2_with fail
  go_ret
  exact⟨_,L,rfl,hL.mono (by omega),Own.mono _ ho (fun q hq=>⟨by have h1:=hq.1;omega,hq.2⟩),(hxb.t hx)⟩
theorem s_l16Between (l:List Seg) (v v2:Value) (a9 b9:Int) (n:Nat) (w:World) (r:RdS Seg.rep w v l) (hl:SegsBd n l) (hn:n≤1000) :
  Calls Tryz.prog 171 #[.agg #[v2,v],.int .i64 a9,.int .i64 b9] w fun e w'=>∃ (v':Value) (l':List Seg),e=.returned v'∧SegsBd n l'∧Seg.ownS.own (rng w.heap.size w'.heap.size) w' v' l'∧Ext w w':=by
 obtain⟨E⟩:=elemSeg;obtain⟨o,cap,rfl,hsm⟩:=r.shape;obtain⟨hx0,HB0⟩:=ea1 w (.cells #[v2,.slice o l.length cap] 108);replace HB0:=Ac HB0
 obtain⟨W3,hW3⟩:∃ W3:World,W3=(w.alloc (.cells #[v2,.slice o l.length cap] 108)):=⟨_,rfl⟩
 have hs3:w.heap.size≤W3.heap.size:=by rw [hW3];exact hx0.size
 have hxb:=hx0;rw [← hW3] at hxb HB0;clear hx0
 go_enter Tryz.func171,Tryz.ntmps171
 go_upto_region 1 with (fail)
 rw [← hW3];clear hW3;have hno:=segs_none W3;have hxe:Ext W3 (W3.alloc (.cells #[] 116)):=(Ab _).alloc _;have cf1:=blk2 HB0.out
 go_wp2_with fail
 go_loopg [7,8] l.length (fun gk out i wr=>∃ (k:Nat) (L:List Seg),gk+k=l.length∧i=.int .i64 k∧SegsBd k L∧Seg.ownS.own (rng W3.heap.size wr.heap.size) wr out L∧Ext W3 wr)
 case atStart=>exact⟨0,[],by omega,rfl,⟨Ae _,by simp⟩,by simpa only [nblk_alloc] using hno,hxe⟩
 case round=>
  clear hno hxe;obtain⟨k,L,hgk,rfl,hL,ho,hx⟩:=hrel;obtain⟨oq9,cq9,rfl,_⟩:=(Seg.ord ho).shape;have HGK:=Ac hgk;clear hgk;have hkl:k≤l.length:=by have h1:=HGK.out;omega
  have hLl:=hL.1;have hln:=hl.1
  by_cases hlt:k<l.length
  ·
   obtain⟨b,off,oh,ch,rfl,hc,hr⟩:=Seg.at (r.ext (hxb.t hx)) k hlt;have hb6:=hl.at k hlt
   obtain⟨x,hx9⟩:∃ x,x=l[k]:=⟨_,rfl⟩
   rw [← hx9] at hc hr hb6;clear hx9
   try clear cf1
   have cf2:=blk2 (Aa hx HB0.out)
   go_wp2_with fail
   refine(s_FirstASn x _ _ (hr.ext (Ab _))).mono ?_;rintro e w1 ⟨q,rfl,_,hz1⟩
   cases hq:(q == a9)
   ·
    try clear cf2
    have cf3:=blk2 (Aa (hx.t hz1) HB0.out);have cf4:=cell3_extS hz1 hc
    go_wp2_with fail
    go_roundg (gk - 1)
    case measure=>have h1:=HGK.out;omega
    case rel=>exact⟨k+1,L,by have h1:=HGK.out;omega,congrArg (Value.int .i64) (by first | omega | (unfold wrap64;omega)),hL.mono (Nat.le_succ _),Bg (Aj ho hz1) (Ae _),(hx.t hz1)⟩
   try clear cf2
   have cf5:=blk2 (Aa (hx.t hz1) HB0.out);have cf6:=cell3_extS hz1 hc
   go_wp2_with fail
   refine(s_LastAS x _ _ (hr.ext hz1)).mono ?_;rintro e w2 ⟨q2,rfl,hz2⟩
   cases hq2:(q2 == b9)
   ·
    try clear cf5
    try clear cf6
    have cf7:=blk2 (Aa ((hx.t hz1).t hz2) HB0.out);have cf8:=cell3_extS (hz1.t hz2) hc
    go_wp2_with fail
    go_roundg (gk - 1)
    case measure=>have h1:=HGK.out;omega
    case rel=>exact⟨k+1,L,by have h1:=HGK.out;omega,congrArg (Value.int .i64) (by first | omega | (unfold wrap64;omega)),hL.mono (Nat.le_succ _),Bg (Aj ho (hz1.t hz2)) (Ae _),((hx.t hz1).t hz2)⟩
   try clear cf5
   try clear cf6
   have cf9:=blk2 (Aa ((hx.t hz1).t hz2) HB0.out);have cf10:=cell3_extS (hz1.t hz2) hc
   go_wp2_with fail
   refine(s_l9Copy x _ _ (hr.ext (hz1.t hz2)) (by omega)).mono ?_;rintro e w3 ⟨vc,rfl,oc,hz3⟩;obtain⟨oo,co,rfl,_⟩:=(Bb (hf:=Ao) oc).shape
   try clear cf9
   try clear cf10
   have cf11:=blk2 (Aa (((hx.t hz1).t hz2).t hz3) HB0.out);have cf12:=cell3_extS ((hz1.t hz2).t hz3) hc;have HXA:=Ac (((hz1.t hz2).t hz3).alloc (.cells #[.int .i64 x.ts,.int .i64 x.beta,.slice oo x.hops.length co] 116));have hsc:wr.heap.size≤w2.heap.size:=Ext.size (hz1.t hz2);have hi9:=Own.mono (Own.flat Hop.f 5 Ao 103) (Own.ofF (hf:=Ao) oc) (T:=rng wr.heap.size w3.heap.size) (fun q hq=>⟨Ad hsc hq.1,hq.2⟩)
   go_wp2_with (at_builtin;refine appN (lo:=W3.heap.size) (w0:=wr) (c:=Seg.c) (hc:=Seg.clen) (sub:=(·.hops)) (I:=Own.flat Hop.f 5 Ao 103) E rfl _ _ rfl x (.slice oo x.hops.length co) (rng wr.heap.size w3.heap.size) (seg_oneC _ _ _ _) rfl ho HXA.out (Aj (O:=Own.flat Hop.f 5 Ao 103) hi9 ((Ab _).alloc _)) (fun q hq=>⟨hq.1,by have h1:=hq.2;simp;omega⟩) hx.size rfl (by exact Au (Seg.c x (.slice oo x.hops.length co)) (blk_new w3 _)) (by omega) (by unfold maxLen;omega) ?_)
   intro v' w' ho' hg' hvlo;have hx':=(hx.trans HXA.out).grown hg' hvlo;clear hg' hvlo hi9 ho
   try clear cf11
   try clear cf12
   go_wp2_with fail
   go_roundg (gk - 1)
   case measure=>have h1:=HGK.out;omega
   case rel=>exact⟨k+1,_,by have h1:=HGK.out;omega,congrArg (Value.int .i64) (by first | omega | (unfold wrap64;omega)),hL.snoc hb6,ho',hx'⟩
  try clear cf1
  have cf13:=blk2 (Aa hx HB0.out)
  go_wp2_with fail
  go_ret
  exact⟨_,L,rfl,hL.mono (by omega),Own.mono _ ho (fun q hq=>⟨by have h1:=hq.1;omega,hq.2⟩),(hxb.t hx)⟩
theorem s_l9SameHops (a:List Hop) (va:Value) (b:List Hop) (vb:Value) (w:World) (ha:RdS Hop.rep w va a) (hb:RdS Hop.rep w vb b) :
  Calls Tryz.prog 206 #[va,vb] w fun e w'=>e=.returned (.bool (decide (a=b)))∧Ext w w':=by
 obtain⟨oa,ca,rfl,hsa⟩:=ha.shape;obtain⟨ob,cb,rfl,hsb⟩:=hb.shape
 by_cases hne:a.length=b.length
 ·
  have Hne:=Ac hne;have t1:((a.length:Int) != (b.length:Int))=false:=by simp [hne]
  clear hne
  go_enter Tryz.func206,Tryz.ntmps206
  go_wp2
  go_loopw [5] (fun i wr=>∃ (k:Nat),k≤a.length∧i=.int .i64 k∧a.take k=b.take k∧Ext w wr) (fun i _=>a.length - (intOf i).toNat)
  case atStart=>exact⟨0,Nat.zero_le _,rfl,rfl,Ab _⟩
  case round=>
   obtain⟨k,hk,rfl,htk,hx⟩:=hrel;have Htk:=Ac htk;clear htk
   by_cases hlt:k<a.length
   ·
    have hlb:k<b.length:=by rw [← Hne.out];exact hlt
    obtain⟨b1,off1,rfl,hc1⟩:=Ca (ha.ext hx) k hlt;obtain⟨b2,off2,rfl,hc2⟩:=Ca (hb.ext hx) k hlb
    go_wp2
    go_still_tail 8,(by kernel_rfl)
    go_wp2_with fail
    all_goals first
     | (go_ret; exact ⟨Ah (Eq.symm (decide_eq_false (by rintro rfl; contradiction))), hx.drew⟩)
     | exact ⟨⟨k + 1, by omega, by go_num, take_snoc2 Htk.out hlt hlb (Hop.ext' (by assumption) (by assumption) (by assumption) (by assumption) (by assumption)), hx.drew⟩, by simp [intOf]; omega⟩
   have hab:decide (a=b)=true:=by
    have:=Htk.out;rw [List.take_of_length_le (by omega),List.take_of_length_le (by rw [← Hne.out];omega)] at this
    simp [this]
   have Hab:=Ac hab;clear hab
   go_wp2
   go_ret
   exact⟨Ah Hab.out.symm,hx⟩
 have t1:((a.length:Int) != (b.length:Int))=true:=by simp [bne_iff_ne];omega
 have hab:decide (a=b)=false:=by
  rw [decide_eq_false_iff_not];rintro rfl;exact hne rfl
 have Hab:=Ac hab;clear hab;clear hne
 go_enter Tryz.func206,Tryz.ntmps206
 go_wp2
 go_ret
 exact⟨Ah Hab.out.symm,Ab _⟩
theorem s_EqualSegments (a b:Seg) (va vb:Value) (w:World) (ra:RdS Hop.rep w va a.hops) (rb:RdS Hop.rep w vb b.hops) :
  Calls Tryz.prog 203 #[.agg #[.int .i64 a.ts,.int .i64 a.beta,va],.agg #[.int .i64 b.ts,.int .i64 b.beta,vb]] w fun e w'=>∃ q:Bool,e=.returned (.bool q)∧Ext w w':=by
 obtain⟨oa,ca,rfl,_⟩:=ra.shape;obtain⟨ob,cb,rfl,_⟩:=rb.shape;obtain⟨hx0,HB0⟩:=ea2 w (.cells #[.int .i64 a.ts,.int .i64 a.beta,.slice oa a.hops.length ca] 116) (.cells #[.int .i64 b.ts,.int .i64 b.beta,.slice ob b.hops.length cb] 116);replace HB0:=Ac HB0
 go_enter Tryz.func203,Tryz.ntmps203
 cases b1:(a.ts == b.ts)
 ·
  have cf1:=blk3 HB0.out.1;have cf2:=blk3 HB0.out.2
  go_wp2_with fail
  go_ret
  exact⟨_,rfl,hx0⟩
 cases b2:(a.beta == b.beta)
 ·
  have cf3:=blk3 HB0.out.1;have cf4:=blk3 HB0.out.2
  go_wp2_with fail
  go_ret
  exact⟨_,rfl,hx0⟩
 have cf5:=blk3 HB0.out.1;have cf6:=blk3 HB0.out.2
 go_wp2_with fail
 refine(s_l9SameHops a.hops _ b.hops _ _ (ra.ext hx0) (rb.ext hx0)).mono ?_;rintro e w1 ⟨rfl,hz1⟩
 try clear cf5
 try clear cf6
 have cf7:=blk3 (Aa hz1 HB0.out.1);have cf8:=blk3 (Aa hz1 HB0.out.2)
 go_wp2_with fail
 go_ret
 exact⟨_,rfl,(hx0.t hz1)⟩
theorem s_l16Has (l:List Seg) (v:Value) (s:Seg) (vs:Value) (w:World) (r:RdS Seg.rep w v l) (rs:RdS Hop.rep w vs s.hops) :
  Calls Tryz.prog 196 #[v,.agg #[.int .i64 s.ts,.int .i64 s.beta,vs]] w fun e w'=>∃ q:Bool,e=.returned (.bool q)∧Ext w w':=by
 obtain⟨o,cap,rfl,hsm⟩:=r.shape;obtain⟨os,cs,rfl,_⟩:=rs.shape;obtain⟨hx0,HB0⟩:=ea1 w (.cells #[.int .i64 s.ts,.int .i64 s.beta,.slice os s.hops.length cs] 116);replace HB0:=Ac HB0
 go_enter Tryz.func196,Tryz.ntmps196
 have cf1:=blk3 HB0.out
 go_wp2_with fail
 go_loopg [5] l.length (fun gk i wr=>∃ k:Nat,gk+k=l.length∧i=.int .i64 k∧Ext ((w.alloc (.cells #[.int .i64 s.ts,.int .i64 s.beta,.slice os s.hops.length cs] 116))) wr)
 case atStart=>exact⟨0,by omega,rfl,Ab _⟩
 case round=>
  obtain⟨k,hgk,rfl,hx⟩:=hrel;have HGK:=Ac hgk;clear hgk;have hkl:k≤l.length:=by have h1:=HGK.out;omega
  by_cases hlt:k<l.length
  ·
   obtain⟨b,off,oh,ch,rfl,hc,hr⟩:=Seg.at (r.ext (hx0.t hx)) k hlt
   obtain⟨x,hx9⟩:∃ x,x=l[k]:=⟨_,rfl⟩
   rw [← hx9] at hc hr;clear hx9
   try clear cf1
   have cf2:=blk3 (Aa hx HB0.out)
   go_wp2_with fail
   refine Ax (.blk [0,1,2,3,4] (.one 5 .done)) [] (by kernel_rfl) (by kernel_rfl) ?_
   try clear cf2
   have cf3:=blk3 (Aa (hx.t ((Ab _).drew)) HB0.out);have cf4:=cell3_extS ((Ab _).drew) hc;refine blkStep (fun K HK=>?_);simp only [PK]
   go_wp2_with fail
   refine HK.out _ _ ?_;clear HK K;refine oneStep (fun K HK=>?_);simp only [PK]
   go_wp2_with fail
   refine(s_EqualSegments x s _ _ _ (hr.ext ((Ab _).drew)) (rs.ext ((hx0.t hx).t ((Ab _).drew)))).mono ?_;rintro e w1 ⟨q,rfl,hz1⟩
   try clear cf3
   try clear cf4
   have cf5:=blk3 (Aa ((hx.t ((Ab _).drew)).t hz1) HB0.out);have cf6:=cell3_extS (((Ab _).drew).t hz1) hc
   go_wp2_with fail
   refine HK.out _ _ hz1 ?_;clear HK K;refine Ap (by kernel_rfl) ?_
   cases q
   case false=>
    go_wp2_with fail
    go_roundg (gk - 1)
    case measure=>have h1:=HGK.out;omega
    case rel=>exact⟨k+1,by have h1:=HGK.out;omega,congrArg (Value.int .i64) (by first | omega | (unfold wrap64;omega)),((hx.t ((Ab _).drew)).t hz1)⟩
   case true=>
    go_wp2_with fail
    go_ret
    exact⟨_,rfl,(((hx0.t hx).t ((Ab _).drew)).t hz1)⟩
  try clear cf1
  have cf7:=blk3 (Aa hx HB0.out)
  go_wp2_with fail
  go_ret
  exact⟨_,rfl,(hx0.t hx)⟩
theorem s_HasSegment (D C:List Seg) (vd vc:Value) (s:Seg) (vs:Value) (w:World) (rd:RdS Seg.rep w vd D) (rc:RdS Seg.rep w vc C) (rs:RdS Hop.rep w vs s.hops) :
  Calls Tryz.prog 167 #[.agg #[vd,vc],.agg #[.int .i64 s.ts,.int .i64 s.beta,vs]] w fun e w'=>∃ q:Bool,e=.returned (.bool q)∧Ext w w':=by
 obtain⟨hx0,HB0⟩:=ea2 w (.cells #[vd,vc] 108) (.cells #[.int .i64 s.ts,.int .i64 s.beta,vs] 116);replace HB0:=Ac HB0
 go_enter Tryz.func167,Tryz.ntmps167
 have cf1:=blk2 HB0.out.1;have cf2:=blk3 HB0.out.2
 go_wp2_with fail
 refine(s_l16Has D _ s _ _ (rd.ext hx0) (rs.ext hx0)).mono ?_;rintro e w1 ⟨q,rfl,hz1⟩
 cases q
 case false=>
  try clear cf1
  try clear cf2
  have cf3:=blk2 (Aa hz1 HB0.out.1);have cf4:=blk3 (Aa hz1 HB0.out.2)
  go_wp2_with fail
  refine(s_l16Has C _ s _ _ (rc.ext (hx0.t hz1)) (rs.ext (hx0.t hz1))).mono ?_;rintro e w2 ⟨q,rfl,hz2⟩
  try clear cf3
  try clear cf4
  have cf5:=blk2 (Aa (hz1.t hz2) HB0.out.1);have cf6:=blk3 (Aa (hz1.t hz2) HB0.out.2)
  go_wp2_with fail
  go_ret
  exact⟨_,rfl,((hx0.t hz1).t hz2)⟩
 case true=>
  try clear cf1
  try clear cf2
  have cf7:=blk2 (Aa hz1 HB0.out.1);have cf8:=blk3 (Aa hz1 HB0.out.2)
  go_wp2_with fail
  go_ret
  exact⟨_,rfl,(hx0.t hz1)⟩
theorem s_l23Index (s:Seg) (v:Value) (r9:Int) (w:World) (r:RdS Hop.rep w v s.hops) (hl:s.hops.length≤1000) :
  Calls Tryz.prog 170 #[.agg #[.int .i64 s.ts,.int .i64 s.beta,v],.int .i64 r9] w fun e w'=>∃ n:Int,e=.returned (.int .i64 n)∧Ext w w':=by
 obtain⟨o,cap,rfl,hsm⟩:=r.shape;obtain⟨hx0,HB0⟩:=ea1 w (.cells #[.int .i64 s.ts,.int .i64 s.beta,.slice o s.hops.length cap] 116);replace HB0:=Ac HB0
 go_enter Tryz.func170,Tryz.ntmps170
 have cf1:=blk3 HB0.out
 go_wp2_with fail
 go_loopg [5] s.hops.length (fun gk i wr=>∃ k:Nat,gk+k=s.hops.length∧i=.int .i64 k∧Ext ((w.alloc (.cells #[.int .i64 s.ts,.int .i64 s.beta,.slice o s.hops.length cap] 116))) wr)
 case atStart=>exact⟨0,by omega,rfl,Ab _⟩
 case round=>
  obtain⟨k,hgk,rfl,hx⟩:=hrel;have HGK:=Ac hgk;clear hgk;have hkl:k≤s.hops.length:=by have h1:=HGK.out;omega
  by_cases hlt:k<s.hops.length
  ·
   obtain⟨b,off,rfl,hc⟩:=Ca (r.ext (hx0.t hx)) k hlt
   obtain⟨x,hx9⟩:∃ x,x=s.hops[k]:=⟨_,rfl⟩
   rw [← hx9] at hc;clear hx9
   cases hq:(x.asn == r9)
   ·
    try clear cf1
    have cf2:=blk3 (Aa hx HB0.out)
    go_wp2_with fail
    go_roundg (gk - 1)
    case measure=>have h1:=HGK.out;omega
    case rel=>exact⟨k+1,by have h1:=HGK.out;omega,congrArg (Value.int .i64) (by first | omega | (unfold wrap64;omega)),hx⟩
   try clear cf1
   have cf3:=blk3 (Aa hx HB0.out)
   go_wp2_with fail
   go_ret
   exact⟨_,rfl,(hx0.t hx)⟩
  try clear cf1
  have cf4:=blk3 (Aa hx HB0.out)
  go_wp2_with fail
  go_ret
  exact⟨_,rfl,(hx0.t hx)⟩
end
abbrev Ci := @cell3_extS
end Go.Proofs.YteodlcpeoaggbaaGreat
