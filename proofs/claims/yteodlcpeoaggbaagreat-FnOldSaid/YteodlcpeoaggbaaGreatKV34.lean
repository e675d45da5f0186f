/- What these laws need: FnOld: All paths of a book, said as how many there are and how long they are. -/
import Derived.Test.YteodlcpeoaggbaaGreatKV33
namespace Go.Proofs.YteodlcpeoaggbaaGreat
section
open Go.ChangeShapes Go.WideShapes Go.ChangeAt Go.RowKit Go.Deep
set_option maxRecDepth 100000
set_option maxHeartbeats 40000000
theorem part_lit {lo:Nat} {w2:World} (X:Part) {u:Value} (ou:OwnF Hop.f 5 lo 103 w2 u X.hops) (hlo:lo≤w2.heap.size):Part.own.own (rng lo (w2.heap.size+1)) (w2.alloc (.cells #[.int .i64 X.kind,.int .i64 X.ts,.int .i64 X.beta,u] 99)) (.slice (some ⟨w2.heap.size,0,none⟩) 1 1) [X]:=by
 have h:=nest_lit (n:=4) (c:=Part.c) (hc:=Part.clen) (sub:=fun x:Part=>x.hops) (e:=99) (I:=Own.flat Hop.f 5 Ao 103) (w:=w2) [⟨X,u,rng lo w2.heap.size⟩] lo hlo (by simp [maxLen])
  (fun q hq=>by obtain rfl:=List.mem_singleton.1 hq;exact⟨Own.ofF (hf:=Ao) ou,fun b hb=>hb⟩) (fun i j hi hj hne=>by simp at hi hj;omega)
 exact h
theorem pth_oneG:∀ (b:Pth) (oo:Option Addr) (m k:Nat),∀ u∈Pth.c b (.slice oo m k),u.oneCell'=true:=fun b oo m k=>pth_oneJ b oo m k
theorem s_l23Alone (D C:List Seg) (vd vc:Value) (r9 q9:Int) (w:World) (rd:RdS Seg.rep w vd D) (rc:RdS Seg.rep w vc C) (hD:SegsBd 20 D) (hC:SegsBd 20 C) :
  Calls Tryz.prog 126 #[.agg #[vd,vc],.int .i64 r9,.int .i64 q9] w fun e w'=>∃ (v':Value) (L:List Pth),e=.returned v'∧PthsBd 80 L∧Pth.ownS.own (rng w.heap.size w'.heap.size) w' v' L∧Ext w w':=by
 obtain⟨E⟩:=elemPth;obtain⟨o_d,c_d,rfl,_⟩:=rd.shape;obtain⟨o_c,c_c,rfl,_⟩:=rc.shape;obtain⟨hx0,HB0⟩:=ea1 w (.cells #[.slice o_d D.length c_d,.slice o_c C.length c_c] 108);replace HB0:=Ac HB0
 obtain⟨W3,hW3⟩:∃ W3:World,W3=(w.alloc (.cells #[.slice o_d D.length c_d,.slice o_c C.length c_c] 108)):=⟨_,rfl⟩
 have hs3:w.heap.size≤W3.heap.size:=by rw [hW3];exact hx0.size
 have hx:=hx0;rw [← hW3] at hx HB0;clear hx0
 go_enter Tryz.func126,Tryz.ntmps126
 go_upto_region 1 with (fail)
 rw [← hW3];clear hW3;have hlp:=pths_none W3;have cb0:=blk2 (Aa hlp.x HB0.out)
 go_wp2_with fail
 clear cb0;refine(s_DownSegments D _ _ r9 20 _ (rd.ext (hx.trans hlp.x)) hD (by omega)).mono ?_;rintro e w_u ⟨vu,u,rfl,hu,Ru,hz_u⟩;obtain⟨o_u,c_u,rfl,_⟩:=(Seg.ord Ru).shape;have hul:=hu.1
 obtain⟨K_u,hK_u⟩:∃ K:Nat→Prop,K=rng (W3.alloc (.cells #[] 30)).heap.size w_u.heap.size:=⟨_,rfl⟩
 have k_u:(Own.keep Seg.rep).own K_u w_u (.slice o_u u.length c_u) u:=by rw [hK_u];exact Be Ru
 have lp_u:=hlp.keepNew (K':=K_u) hz_u (fun q hq=>by rw [hK_u] at hq;exact .inr hq);clear Ru hz_u hK_u hlp;have cb0:=blk2 (Aa lp_u.x HB0.out)
 go_wp2_with fail
 clear cb0
 go_loopg [7,9] u.length (fun gk out i wr=>∃ (k:Nat) (L:List Pth),gk+k=u.length∧i=.int .i64 k∧LP W3 K_u (0+k) out L wr∧(Own.keep Seg.rep).own K_u wr (.slice o_u u.length c_u) u)
 case atStart=>exact⟨0,_,by omega,rfl,lp_u,k_u⟩
 case round=>
  clear lp_u k_u;obtain⟨k,L,hgk,rfl,lp_u,k_u⟩:=hrel;obtain⟨oq9,cq9,rfl,_⟩:=lp_u.rd.shape;have HGK:=Ac hgk;clear hgk;have hkl:k≤u.length:=by have h1:=HGK.out;omega
  by_cases hlt:k<u.length
  ·
   obtain⟨b0,off,oh,ch,rfl,hc,hr⟩:=Seg.at (Own.rd _ k_u) k hlt;have hx6:=hu.at k hlt
   obtain⟨x,hx9⟩:∃ x,x=u[k]:=⟨_,rfl⟩
   rw [← hx9] at hc hr hx6;clear hx9
   go_wp2_with fail
   refine(s_l23Index x _ q9 _ hr (by omega)).mono ?_;rintro e w1 ⟨n9,rfl,h1⟩;have hc1:=Ci h1 hc
   by_cases hn9:0≤n9
   ·
    go_wp2_with fail
    refine(s_MakePart x _ 1 n9 _ (hr.ext h1) (by omega)).mono ?_;rintro e w2 ⟨u,rfl,ou,h2⟩;have hml:=makePart_len x 1 n9
    obtain⟨X,hX⟩:∃ X,X=makePart x 1 n9:=⟨_,rfl⟩
    rw [← hX] at ou hml ⊢
    clear hX hc hc1;obtain⟨oo,co,rfl,_⟩:=(Bb (hf:=Ao) ou).shape;have hPL:=part_lit X (ou.mono h1.size) (h1.trans h2).size;have hLl:=lp_u.bd.1;have hnl:=hul;obtain⟨S,hoS,hS⟩:=lp_u.own;have h12:=(h1.trans h2).alloc (.cells #[.int .i64 X.kind,.int .i64 X.ts,.int .i64 X.beta,.slice oo X.hops.length co] 99)
    go_wp2_with (at_builtin;refine appG (w0:=wr) (c:=Pth.c) (hc:=Pth.clen) (sub:=(·.parts)) (I:=Part.own) (S:=S) E rfl _ _ rfl (⟨[X]⟩:Pth) (.slice (some ⟨w2.heap.size,0,none⟩) 1 1) (rng wr.heap.size (w2.heap.size+1)) (pth_oneJ _ _ _ _) rfl hoS (h12.alloc _) (Aj hPL ((Ab _).alloc _)) (fun q hq=>⟨hq.1,by have h5:=hq.2;simp;omega⟩) rfl (by exact Au (Pth.c ⟨[X]⟩ (.slice (some ⟨w2.heap.size,0,none⟩) 1 1)) (blk_new2 w2 _ _)) (by omega) (by unfold maxLen;omega) ?_)
    intro v' w' ho' hg' hvS;obtain⟨ln,hcg⟩:=lp_u.grown hS (h12.alloc _) hg' hvS ho' (fun q hq=>hq) (lp_u.bd.app (m:=1) (PthsBd.one ⟨by simp,fun y hy=>by obtain rfl:=List.mem_singleton.1 hy;omega⟩) (Ae _));have kn:=keepK k_u hcg;clear hcg hg' hvS ho' hoS hS hPL ou
    go_wp2_with fail
    go_roundg (gk - 1)
    case measure=>have h1:=HGK.out;omega
    case rel=>exact⟨k+1,_,by have h1:=HGK.out;omega,congrArg (Value.int .i64) (by first | omega | (unfold wrap64;omega)),ln,kn⟩
   go_wp2_with fail
   go_roundg (gk - 1)
   case measure=>have h1:=HGK.out;omega
   case rel=>exact⟨k+1,L,by have h1:=HGK.out;omega,congrArg (Value.int .i64) (by first | omega | (unfold wrap64;omega)),(lp_u.ext h1).mono (Nat.le_succ _),Aj k_u h1⟩
  have cb0:=blk2 (Aa lp_u.x HB0.out)
  go_wp2_with fail
  clear cb0;refine(s_DownSegments D _ _ q9 20 _ (rd.ext (hx.trans lp_u.x)) hD (by omega)).mono ?_;rintro e w_d ⟨vd,d,rfl,hd,Rd,hz_d⟩;obtain⟨o_d,c_d,rfl,_⟩:=(Seg.ord Rd).shape;have hdl:=hd.1
  obtain⟨K_d,hK_d⟩:∃ K:Nat→Prop,K=rng wr.heap.size w_d.heap.size:=⟨_,rfl⟩
  have k_d:(Own.keep Seg.rep).own K_d w_d (.slice o_d d.length c_d) d:=by rw [hK_d];exact Be Rd
  have lp_d:=lp_u.keepNew (K':=K_d) hz_d (fun q hq=>by rw [hK_d] at hq;exact .inr hq);clear Rd hz_d hK_d lp_u
  obtain⟨kk,hkk⟩:∃ kk,kk=k:=⟨_,rfl⟩
  rw [← hkk] at lp_d;have hk20:kk≤20:=by omega
  clear hkk;have cb0:=blk2 (Aa lp_d.x HB0.out)
  go_wp2_with fail
  clear cb0
  go_loopg [7,12] d.length (fun gk out i wr=>∃ (k:Nat) (L:List Pth),gk+k=d.length∧i=.int .i64 k∧LP W3 K_d (0+kk+k) out L wr∧(Own.keep Seg.rep).own K_d wr (.slice o_d d.length c_d) d)
  case atStart=>exact⟨0,_,by omega,rfl,lp_d,k_d⟩
  case round=>
   clear lp_d k_d;obtain⟨k,L,hgk,rfl,lp_d,k_d⟩:=hrel;obtain⟨oq9,cq9,rfl,_⟩:=lp_d.rd.shape;have HGK:=Ac hgk;clear hgk;have hkl:k≤d.length:=by have h1:=HGK.out;omega
   by_cases hlt:k<d.length
   ·
    obtain⟨b0,off,oh,ch,rfl,hc,hr⟩:=Seg.at (Own.rd _ k_d) k hlt;have hx6:=hd.at k hlt
    obtain⟨x,hx9⟩:∃ x,x=d[k]:=⟨_,rfl⟩
    rw [← hx9] at hc hr hx6;clear hx9
    go_wp2_with fail
    refine(s_l23Index x _ r9 _ hr (by omega)).mono ?_;rintro e w1 ⟨n9,rfl,h1⟩;have hc1:=Ci h1 hc
    by_cases hn9:0≤n9
    ·
     go_wp2_with fail
     refine(s_MakePart x _ 4 n9 _ (hr.ext h1) (by omega)).mono ?_;rintro e w2 ⟨u,rfl,ou,h2⟩;have hml:=makePart_len x 4 n9
     obtain⟨X,hX⟩:∃ X,X=makePart x 4 n9:=⟨_,rfl⟩
     rw [← hX] at ou hml ⊢
     clear hX hc hc1;obtain⟨oo,co,rfl,_⟩:=(Bb (hf:=Ao) ou).shape;have hPL:=part_lit X (ou.mono h1.size) (h1.trans h2).size;have hLl:=lp_d.bd.1;have hnl:=hdl;obtain⟨S,hoS,hS⟩:=lp_d.own;have h12:=(h1.trans h2).alloc (.cells #[.int .i64 X.kind,.int .i64 X.ts,.int .i64 X.beta,.slice oo X.hops.length co] 99)
     go_wp2_with (at_builtin;refine appG (w0:=wr) (c:=Pth.c) (hc:=Pth.clen) (sub:=(·.parts)) (I:=Part.own) (S:=S) E rfl _ _ rfl (⟨[X]⟩:Pth) (.slice (some ⟨w2.heap.size,0,none⟩) 1 1) (rng wr.heap.size (w2.heap.size+1)) (pth_oneJ _ _ _ _) rfl hoS (h12.alloc _) (Aj hPL ((Ab _).alloc _)) (fun q hq=>⟨hq.1,by have h5:=hq.2;simp;omega⟩) rfl (by exact Au (Pth.c ⟨[X]⟩ (.slice (some ⟨w2.heap.size,0,none⟩) 1 1)) (blk_new2 w2 _ _)) (by omega) (by unfold maxLen;omega) ?_)
     intro v' w' ho' hg' hvS;obtain⟨ln,hcg⟩:=lp_d.grown hS (h12.alloc _) hg' hvS ho' (fun q hq=>hq) (lp_d.bd.app (m:=1) (PthsBd.one ⟨by simp,fun y hy=>by obtain rfl:=List.mem_singleton.1 hy;omega⟩) (Ae _));have kn:=keepK k_d hcg;clear hcg hg' hvS ho' hoS hS hPL ou
     go_wp2_with fail
     go_roundg (gk - 1)
     case measure=>have h1:=HGK.out;omega
     case rel=>exact⟨k+1,_,by have h1:=HGK.out;omega,congrArg (Value.int .i64) (by first | omega | (unfold wrap64;omega)),ln,kn⟩
    go_wp2_with fail
    go_roundg (gk - 1)
    case measure=>have h1:=HGK.out;omega
    case rel=>exact⟨k+1,L,by have h1:=HGK.out;omega,congrArg (Value.int .i64) (by first | omega | (unfold wrap64;omega)),(lp_d.ext h1).mono (Nat.le_succ _),Aj k_d h1⟩
   have lq:=lp_d.ext ((Ab wr).alloc (.cells #[.int .i64 0,.int .i64 0,.slice none 0 0] 116));have cn:=blk3 (blk_new wr (.cells #[.int .i64 0,.int .i64 0,.slice none 0 0] 116));have cb0:=blk2 (Aa lq.x HB0.out)
   go_wp2_with fail
   refine(s_l23Cores C _ _ (⟨0,0,[]⟩:Seg) (⟨0,0,[]⟩:Seg) _ _ r9 q9 _ (rc.ext (hx.trans lq.x)) (RdS.nil _ _) (RdS.nil _ _) hC (by simp) (by simp)).mono ?_;rintro e w1 ⟨vS,LS,rfl,hLS,oS,h1⟩;clear cn cb0;have hLl:=lq.bd.1;have hLm:=hLS.1;obtain⟨oq,cq,rfl,_⟩:=(Pth.ord oS).shape;obtain⟨S,hoS,hS⟩:=lq.own
   go_wp2_with (at_builtin;refine appGS (c:=Pth.c) (hc:=Pth.clen) (sub:=(·.parts)) (I:=Part.own) (S:=S) (S2:=rng (wr.alloc (.cells #[.int .i64 0,.int .i64 0,.slice none 0 0] 116)).heap.size w1.heap.size) E rfl _ _ rfl pth_oneG rfl (Aj hoS h1) rfl oS (fun q hq e=>by have h2:=(hS q hq).2.1;have h3:=e.1;omega) (by omega) (by unfold maxLen;omega) ?_)
   intro v' w' ho' hg' hvS
   obtain ⟨ln, hcg⟩ := lq.grown hS h1 hg' hvS ho' (fun q hq => by
    have z1 := hg'.size; have z2 := h1.size
    rcases hq with (hq | hq) | hq
    ·
     exact .inl hq
    ·
     have z3 := hq.1; have z4 := hq.2; exact .inr (by simp only [nblk_alloc] at z2 z3 ⊢; omega)
    have z3 := hq.1; have z4 := hq.2; exact .inr (by simp only [nblk_alloc] at z2 z3 ⊢; omega)) (lq.bd.app hLS (Ae _))
   clear hcg hg' hvS ho' hoS hS oS
   go_wp2_with fail
   go_ret
   exact⟨_,_,rfl,ln.bd.mono (by omega),ln.fin hs3,hx.trans ln.x⟩
theorem s_JoinUpDown (a b:Seg) (va vb:Value) (w:World) (ra:RdS Hop.rep w va a.hops) (rb:RdS Hop.rep w vb b.hops) (ha:a.hops.length≤6) (hb:b.hops.length≤6) :
  Calls Tryz.prog 128 #[.agg #[.int .i64 a.ts,.int .i64 a.beta,va],.agg #[.int .i64 b.ts,.int .i64 b.beta,vb]] w fun e w'=>∃ (v:Value) (l:List Part),e=.returned (.agg #[v])∧PBd 3 l∧Part.own.own (rng w.heap.size w'.heap.size) w' v l∧Ext w w':=by
 obtain⟨o_a,c_a,rfl,_⟩:=ra.shape;obtain⟨o_b,c_b,rfl,_⟩:=rb.shape;obtain⟨hx0,HB0⟩:=ea3 w (.cells #[.int .i64 a.ts,.int .i64 a.beta,.slice o_a a.hops.length c_a] 116) (.cells #[.int .i64 b.ts,.int .i64 b.beta,.slice o_b b.hops.length c_b] 116) (.cells #[.slice none 0 0] 30);replace HB0:=Ac HB0
 go_enter Tryz.func128,Tryz.ntmps128
 have cf1:=blk3 HB0.out.1;have cf2:=blk3 HB0.out.2.1;have cf3:=blk1 HB0.out.2.2
 go_wp2_with fail
 refine(s_l22Meet a b _ _ _ (ra.ext hx0) (rb.ext hx0) (by omega) (by omega)).mono ?_;rintro e w1 ⟨v,l,rfl,hl,ol,hz1⟩
 have hl3:PBd 3 l:=by
  rcases hl with rfl | ⟨i,k,_,_,rfl⟩
  ·
   exact⟨by simp,by simp⟩
  refine⟨by simp,fun y hy=>?_⟩;have h1:=makePart_len a 1 i;have h2:=makePart_len b 4 k;simp only [List.mem_cons,List.not_mem_nil,or_false] at hy
  rcases hy with rfl | rfl <;> omega
 clear hl;obtain⟨oo,co,rfl,_⟩:=(Bs ol).shape;have hbr:=Aa hz1 HB0.out.2.2;obtain⟨wq,hwq,hbq,hcq⟩:=one_set hbr 0 (.slice oo l.length co);simp only [List.setIfInBounds_toArray,List.set_cons_zero] at hbq;have HQ:=Ac (⟨Bg (Cd (Own.kept _ ol hcq (fun q hq e=>by have h2:=hq.1;have h3:q=w.heap.size+1+1:=e;simp at h2;omega)) (by simp;omega)) (Ae _),Ext.chg (hx0.t hz1) hcq (fun i hi=>by have h3:i=w.heap.size+1+1:=hi;omega)⟩:Part.own.own (rng w.heap.size wq.heap.size) wq (.slice oo l.length co) l∧Ext w wq);have HWQ:=Ac hwq;have HBQ:=Ac hbq;have fr:=fr_of hbr 0;clear hwq hbq hcq hbr ol
 try clear cf1
 try clear cf2
 try clear cf3
 have cf4:=blk3 (Aa hz1 HB0.out.1);have cf5:=blk3 (Aa hz1 HB0.out.2.1);have cf6:=blk1 (Aa hz1 HB0.out.2.2)
 go_wp2_with fail
 try clear cf4
 try clear cf5
 try clear cf6
 rw [← HWQ.out];have cc:=blk1 HBQ.out;clear fr;refine bodyPost_ret (by simp [results,Tryz.results128,go_sem,cc] <;> rfl) rfl ?_;exact⟨_,l,rfl,hl3,HQ.out.1,HQ.out.2⟩
theorem s_CombinePaths (t:Topo) (v1 v2:Value) (D C:List Seg) (vd vc:Value) (r9 q9:Int) (w:World) (ha:RdS ASd.rep w v1 t.ases) (rd:RdS Seg.rep w vd D) (rc:RdS Seg.rep w vc C) (hD:SegsBd 20 D) (hC:SegsBd 20 C) :
  Calls Tryz.prog 78 #[.agg #[v1,v2],.agg #[vd,vc],.int .i64 r9,.int .i64 q9] w fun e w'=>∃ (v':Value) (L:List Pth),e=.returned v'∧PthsBd 20000 L∧Pth.ownS.own (rng w.heap.size w'.heap.size) w' v' L∧Ext w w':=by
 obtain⟨E⟩:=elemPth;obtain⟨o_t,c_t,rfl,_⟩:=ha.shape;obtain⟨o_d,c_d,rfl,_⟩:=rd.shape;obtain⟨o_c,c_c,rfl,_⟩:=rc.shape;obtain⟨hx0,HB0⟩:=ea2 w (.cells #[.slice o_t t.ases.length c_t,v2] 27) (.cells #[.slice o_d D.length c_d,.slice o_c C.length c_c] 108);replace HB0:=Ac HB0
 go_enter Tryz.func78,Tryz.ntmps78
 cases hab:(r9 == q9)
 ·
  have cf1:=blk2 HB0.out.1;have cf2:=blk2 HB0.out.2
  go_wp2_with fail
  refine(s_l5Realm t _ _ r9 _ (ha.ext hx0)).mono ?_;rintro e w1 ⟨rfl,hz1⟩
  cases hr:isAs t r9
  ·
   try clear cf1
   try clear cf2
   have cf3:=blk2 (Aa hz1 HB0.out.1);have cf4:=blk2 (Aa hz1 HB0.out.2)
   go_wp2_with fail
   have hlp:=(pths_none w1).fin (w9:=w) (hx0.t hz1).size
   go_ret
   exact⟨_,[],rfl,⟨by simp,by simp⟩,(by first | exact hlp | (simp only [nblk_alloc] at hlp ⊢;exact hlp)),(hx0.t hz1).alloc _⟩
  try clear cf1
  try clear cf2
  have cf5:=blk2 (Aa hz1 HB0.out.1);have cf6:=blk2 (Aa hz1 HB0.out.2)
  go_wp2_with fail
  refine(s_l5Realm t _ _ q9 _ (ha.ext (hx0.t hz1))).mono ?_;rintro e w2 ⟨rfl,hz2⟩
  cases hq:isAs t q9
  ·
   try clear cf5
   try clear cf6
   have cf7:=blk2 (Aa (hz1.t hz2) HB0.out.1);have cf8:=blk2 (Aa (hz1.t hz2) HB0.out.2)
   go_wp2_with fail
   have hlp:=(pths_none w2).fin (w9:=w) ((hx0.t hz1).t hz2).size
   go_ret
   exact⟨_,[],rfl,⟨by simp,by simp⟩,(by first | exact hlp | (simp only [nblk_alloc] at hlp ⊢;exact hlp)),((hx0.t hz1).t hz2).alloc _⟩
  try clear cf5
  try clear cf6
  have cf9:=blk2 (Aa (hz1.t hz2) HB0.out.1);have cf10:=blk2 (Aa (hz1.t hz2) HB0.out.2)
  go_upto_region 3 with (fail)
  try clear cf9
  try clear cf10
  have hx:=((hx0.t hz1).t hz2)
  have hb0:=Aa (hz1.t hz2) HB0.out.1;have hb1:=Aa (hz1.t hz2) HB0.out.2
  obtain⟨W3,hW3⟩:∃ W3:World,W3=w2:=⟨_,rfl⟩
  rw [← hW3] at hx hb0 hb1 ⊢
  clear hW3;have HB0:=Ac hb0;have HB1:=Ac hb1;clear hb0 hb1 hab;obtain⟨ha0,ha1⟩:=isAs_lt hr;obtain⟨hq0,hq1⟩:=isAs_lt hq;obtain⟨rn,rfl⟩:=Int.eq_ofNat_of_zero_le ha0;obtain⟨qn,rfl⟩:=Int.eq_ofNat_of_zero_le hq0;have hrn:rn<t.ases.length:=by simpa using ha1
  have hqn:qn<t.ases.length:=by simpa using hq1
  obtain⟨b1,off1,rfl,_⟩:=ASd.at ha rn hrn;clear hr hq ha0 ha1 hq0 hq1;have cb0:=blk2 HB0.out;have cb1:=blk2 HB1.out
  go_wp2_with fail
  refine(s_l23Alone D C _ _ rn qn _ (rd.ext hx) (rc.ext hx) hD hC).mono ?_;rintro e w1 ⟨vL,L0,rfl,hL0,oL,h1⟩
  have hlp:LP W3 (fun _=>False) 80 vL L0 w1:=⟨hL0,⟨_,oL,fun q hq=>⟨hq.1,hq.2,id⟩⟩,fun q hq=>hq.elim,h1⟩
  clear oL cb0 cb1 h1;have cb0:=blk2 (Aa hlp.x HB0.out);have cb1:=blk2 (Aa hlp.x HB1.out)
  go_wp2_with fail
  clear cb0 cb1;refine(s_DownSegments D _ _ rn 20 _ (rd.ext (hx.trans hlp.x)) hD (by omega)).mono ?_;rintro e w_u ⟨vu,u,rfl,hu,Ru,hz_u⟩;obtain⟨o_u,c_u,rfl,_⟩:=(Seg.ord Ru).shape;have hul:=hu.1
  obtain⟨K_u,hK_u⟩:∃ K:Nat→Prop,K=rng w1.heap.size w_u.heap.size:=⟨_,rfl⟩
  have k_u:(Own.keep Seg.rep).own K_u w_u (.slice o_u u.length c_u) u:=by rw [hK_u];exact Be Ru
  have lp_u:=hlp.keepNew (K':=K_u) hz_u (fun q hq=>by rw [hK_u] at hq;exact .inr hq);clear Ru hz_u hK_u hlp;have cb0:=blk2 (Aa lp_u.x HB0.out);have cb1:=blk2 (Aa lp_u.x HB1.out)
  go_wp2_with fail
  clear cb0 cb1;refine(s_DownSegments D _ _ qn 20 _ (rd.ext (hx.trans lp_u.x)) hD (by omega)).mono ?_;rintro e w_d ⟨vd9,d,rfl,hd,Rd,hz_d⟩;obtain⟨o_e,c_e,rfl,_⟩:=(Seg.ord Rd).shape;have hdl:=hd.1
  obtain⟨K,hK⟩:∃ K:Nat→Prop,K=fun q=>K_u q∨rng w_u.heap.size w_d.heap.size q:=⟨_,rfl⟩
  have kd:(Own.keep Seg.rep).own K w_d (.slice o_e d.length c_e) d:=by rw [hK];exact Own.mono _ (Be Rd) (fun q hq=>.inr hq)
  have ku:(Own.keep Seg.rep).own K w_d (.slice o_u u.length c_u) u:=by rw [hK];exact Own.mono _ (Aj k_u hz_d) (fun q hq=>.inl hq)
  have lp:=lp_u.keepNew (K':=K) hz_d (fun q hq=>by rw [hK] at hq;exact hq);clear Rd hz_d hK lp_u k_u;have cb0:=blk2 (Aa lp.x HB0.out);have cb1:=blk2 (Aa lp.x HB1.out)
  go_wp2_with fail
  clear cb0 cb1
  go_loopg [9,12] u.length (fun gk out i wr=>∃ (k:Nat) (L:List Pth),gk+k=u.length∧i=.int .i64 k∧LP W3 K (80+20 * k) out L wr∧(Own.keep Seg.rep).own K wr (.slice o_u u.length c_u) u∧(Own.keep Seg.rep).own K wr (.slice o_e d.length c_e) d)
  case atStart=>exact⟨0,_,by omega,rfl,lp,ku,kd⟩
  case round=>
   clear lp ku kd;obtain⟨k,L,hgk,rfl,lp,ku,kd⟩:=hrel;obtain⟨oq9,cq9,rfl,_⟩:=lp.rd.shape;have Hgk:=Ac hgk;clear hgk;have hku:k≤u.length:=by have h1:=Hgk.out;omega
   obtain⟨go,hgo⟩:∃ go:Nat,go=gk:=⟨_,rfl⟩
   rw [← hgo] at Hgk
   by_cases hlt:k<u.length
   ·
    obtain⟨m9,hm9⟩:∃ m9,m9=80+20 * k:=⟨_,rfl⟩
    rw [← hm9] at lp;have Hgo:Hid (go+k=u.length):=Hgk;have cb0:=blk2 (Aa lp.x HB0.out);have cb1:=blk2 (Aa lp.x HB1.out)
    go_wp2_with fail
    clear cb0 cb1
    go_loopg [9,13] d.length (fun gk out i wr=>∃ (j:Nat) (L:List Pth),gk+j=d.length∧i=.int .i64 j∧LP W3 K (m9+j) out L wr∧(Own.keep Seg.rep).own K wr (.slice o_u u.length c_u) u∧(Own.keep Seg.rep).own K wr (.slice o_e d.length c_e) d)
    case atStart=>exact⟨0,_,by omega,rfl,lp,ku,kd⟩
    case round=>
     clear lp ku kd Hgk;obtain⟨j,L,hgk,rfl,lp,ku,kd⟩:=hrel;obtain⟨oq9,cq9,rfl,_⟩:=lp.rd.shape;have Hgk:=Ac hgk;clear hgk;have hjd:j≤d.length:=by have h1:=Hgk.out;omega
     by_cases hlj:j<d.length
     ·
      obtain⟨b_x,offx,ohx,chx,hbbx,hcx,hrx⟩:=Seg.at (Own.rd _ ku) k hlt
      cases hbbx
      have h6x:=hu.at k hlt
      obtain⟨x,hx9⟩:∃ y,y=u[k]:=⟨_,rfl⟩
      rw [← hx9] at hcx hrx h6x;clear hx9;obtain⟨b_y,offy,ohy,chy,hbby,hcy,hry⟩:=Seg.at (Own.rd _ kd) j hlj
      cases hbby
      have h6y:=hd.at j hlj
      obtain⟨y,hx9⟩:∃ y,y=d[j]:=⟨_,rfl⟩
      rw [← hx9] at hcy hry h6y;clear hx9;have hc8x:=hcx;have hc8y:=hcy
      go_upto_region 12 with (fail)
      go_cut [14] (fun v14 wx=>∃ (B:Nat) (o3:Option Addr) (c3 m1 m2:Nat) (l3:List Part),v14=.pointer (some ⟨B,0,none⟩)∧wx.heap[B]?=some (.cells #[.slice o3 l3.length c3] 30 (0,0))∧PBd 3 l3∧Part.own.own (rng m1 m2) wx (.slice o3 l3.length c3) l3∧wr.heap.size≤m1∧m2≤wx.heap.size∧Ext wr wx)
      case first=>
       refine Ax (.blk [0,1,2,3,4,5,6,7] (.two 8 9 (.one 9 (.one 10 .done)) (.one 8 (.one 10 .done)))) [10] (by kernel_rfl) (by kernel_rfl) ?_;refine blkStep (fun K HK=>?_);simp only [PK]
       go_wp2_with fail
       refine HK.out _ _ ?_;clear HK K;refine twoStep ?_ ?_
       ·
        refine oneStep (fun K HK=>?_);simp only [PK]
        go_wp2_with fail
        refine(s_JoinUpDown x y _ _ _ (hrx.ext (Ab _).drew) (hry.ext (Ab _).drew) h6x h6y).mono ?_;rintro e wk0 ⟨vJ,l3,rfl,h3,oJ,hk0⟩;obtain⟨oj,cj,rfl,_⟩:=(Bs oJ).shape
        go_wp2_with fail
        refine HK.out _ _ hk0 ?_;clear HK K;refine oneStep (fun K HK=>?_);simp only [PK]
        go_wp2_with fail
        refine HK.out _ _ ((Ab _).alloc _) ?_;clear HK K;refine badStep (by kernel_rfl) (fun K HK=>?_);simp only [PK]
        go_wp2_with fail
        refine HK.out _ _ ?_;clear HK K;refine Ap (by kernel_rfl) ?_
        go_wp2_with fail
        go_meet
        exact⟨_,oj,cj,_,_,l3,rfl,blk_new _ _,h3,Aj oJ ((Ab _).alloc _),(Ab _).drew.size,by simp,((Ab _).drew.trans hk0).alloc _⟩
       have hba:=blk_new wr (.cells #[.slice none 0 0] 30);have HBA:=Ac hba;clear hba;refine oneStep (fun K HK=>?_);simp only [PK]
       go_wp2_with fail
       refine HK.out _ _ ((Ab _).alloc _) ?_;clear HK K;refine oneStep (fun K HK=>?_);simp only [PK]
       go_wp2_with fail
       refine(s_JoinUpDown x y _ _ _ (hrx.ext ((Ab _).drew.t ((Ab _).alloc _))) (hry.ext ((Ab _).drew.t ((Ab _).alloc _))) h6x h6y).mono ?_;rintro e wk0 ⟨vJ,l3,rfl,h3,oJ,hk0⟩;obtain⟨oj,cj,rfl,_⟩:=(Bs oJ).shape
       go_wp2_with fail
       refine HK.out _ _ hk0 ?_;clear HK K;have hbs:=Aa hk0 HBA.out;have hcs:=blk1 hbs;have hfs0:=fr_of hbs 0;have HBS:=Ac hbs;clear hbs;refine badStep (by kernel_rfl) (fun K HK=>?_);simp only [PK]
       go_wp2_with fail
       refine HK.out _ _ ?_;clear HK K;refine Ap (by kernel_rfl) ?_
       go_wp2_with fail
       go_meet
       have zd:wr.drew.heap.size=wr.heap.size:=rfl;obtain⟨wq,hwq,hbq,hcq⟩:=one_set HBS.out 0 (.slice oj l3.length cj);simp only [List.setIfInBounds_toArray,List.set_cons_zero] at hbq;rw [← hwq];have zq:=hcq.size;exact⟨_,oj,cj,_,_,l3,rfl,hbq,h3,Own.kept _ (Aj oJ (Ab _)) hcq (fun b hb e=>by have h1:=hb.1;have h3:b=_:=e;rw [h3] at h1;(try simp only [nblk_alloc] at h1);omega),((Ab _).drew.t ((Ab _).alloc _)).size,by omega,(((Ab _).drew.t ((Ab _).alloc _)).trans hk0).chg hcq (fun i hi=>by have h3:i=_:=hi;rw [h3];exact(Ab _).drew.size)⟩
      case rest=>
       obtain⟨B,o3,c3,m1,m2,l3,rfl,hbB,h3,oJ,hm1,hm2,hxc⟩:=hcut;have lq:=lp.ext hxc;have cB:=blk1 hbB
       by_cases hl0:(0:Int)<(l3.length:Int)
       ·
        have hLl:=lp.bd.1;obtain⟨S,hoS,hS⟩:=lp.own;have hxa:=hxc.alloc (.cells #[.slice o3 l3.length c3] 30)
        go_wp2_with (at_builtin;refine appG (w0:=wr) (c:=Pth.c) (hc:=Pth.clen) (sub:=(·.parts)) (I:=Part.own) (S:=S) E rfl _ _ rfl (⟨l3⟩:Pth) (.slice o3 l3.length c3) (rng m1 m2) (pth_oneJ _ _ _ _) rfl hoS hxa (Aj oJ ((Ab _).alloc _)) (fun q hq=>⟨Ad hm1 hq.1,by have h5:=hq.2;simp;omega⟩) rfl (by exact Au (Pth.c ⟨l3⟩ (.slice o3 l3.length c3)) (blk_new wc _)) (by omega) (by unfold maxLen;omega) ?_)
        intro v' w' ho' hg' hvS;obtain⟨ln,hcg⟩:=lp.grown hS hxa hg' hvS ho' (fun q hq=>hq) (lp.bd.app (m:=1) (PthsBd.one h3) (Ae _));have kun:=keepK ku hcg;have kdn:=keepK kd hcg;clear hcg hg' hvS ho' hoS hS oJ hbB cB lq
        go_wp2_with fail
        go_roundg (gk - 1)
        case measure=>have h1:=Hgk.out;omega
        case rel=>exact⟨j+1,_,by have h1:=Hgk.out;omega,congrArg (Value.int .i64) (by first | omega | (unfold wrap64;omega)),ln,kun,kdn⟩
       go_wp2_with fail
       go_roundg (gk - 1)
       case measure=>have h1:=Hgk.out;omega
       case rel=>exact⟨j+1,_,by have h1:=Hgk.out;omega,congrArg (Value.int .i64) (by first | omega | (unfold wrap64;omega)),lq.mono (Nat.le_succ _),Aj ku hxc,Aj kd hxc⟩
     go_wp2_with fail
     go_roundg (go - 1)
     case measure=>have h1:=Hgo.out;omega
     case rel=>exact⟨k+1,L,by have h1:=Hgo.out;omega,congrArg (Value.int .i64) (by first | omega | (unfold wrap64;omega)),lp.mono (by omega),ku,kd⟩
   have hna:Ext wr (wr.alloc (.cells #[.int .i64 0,.int .i64 0,.slice none 0 0] 116)):=(Ab _).alloc _;have hnb:=blk_new wr (.cells #[.int .i64 0,.int .i64 0,.slice none 0 0] 116)
   obtain⟨K2,hK2⟩:∃ K2:Nat→Prop,K2=fun q=>K q∨(wr.heap.size≤q∧q<(wr.alloc (.cells #[.int .i64 0,.int .i64 0,.slice none 0 0] 116)).heap.size):=⟨_,rfl⟩
   have lp2:=(lp.mono (m:=480) (by omega)).keepNew (K':=K2) hna (fun q hq=>by rw [hK2] at hq;exact hq);have ku2:(Own.keep Seg.rep).own K2 (wr.alloc (.cells #[.int .i64 0,.int .i64 0,.slice none 0 0] 116)) (.slice o_u u.length c_u) u:=by rw [hK2];exact Own.mono _ (Aj ku hna) (fun q hq=>.inl hq)
   have kd2:(Own.keep Seg.rep).own K2 (wr.alloc (.cells #[.int .i64 0,.int .i64 0,.slice none 0 0] 116)) (.slice o_e d.length c_e) d:=by rw [hK2];exact Own.mono _ (Aj kd hna) (fun q hq=>.inl hq)
   have hKb:K2 wr.heap.size:=by rw [hK2];exact .inr ⟨Ae _,by simp⟩
   obtain⟨B5,hB5⟩:∃ B5,B5=wr.heap.size:=⟨_,rfl⟩
   clear lp ku kd hK2 hna;have cb0:=blk2 (Aa lp2.x HB0.out);have cb1:=blk2 (Aa lp2.x HB1.out)
   go_wp2_with fail
   clear cb0 cb1;rw [← hB5] at hnb hKb ⊢
   generalize wr.alloc (.cells #[.int .i64 0,.int .i64 0,.slice none 0 0] 116)=wn at lp2 ku2 kd2 hnb ⊢
   clear hB5
   go_loopg [9,16] d.length (fun gk out i wr=>∃ (k:Nat) (L:List Pth),gk+k=d.length∧i=.int .i64 k∧LP W3 K2 (480+40 * k) out L wr∧(Own.keep Seg.rep).own K2 wr (.slice o_u u.length c_u) u∧(Own.keep Seg.rep).own K2 wr (.slice o_e d.length c_e) d∧wr.heap[B5]?=some (.cells #[.int .i64 0,.int .i64 0,.slice none 0 0] 116 (0,0)))
   case atStart=>exact⟨0,_,by omega,rfl,lp2,ku2,kd2,hnb⟩
   case round=>
    clear lp2 ku2 kd2 hnb;obtain⟨k,L,hgk,rfl,lp2,ku2,kd2,hnb⟩:=hrel;obtain⟨oq9,cq9,rfl,_⟩:=lp2.rd.shape;have Hgk:=Ac hgk;clear hgk;have hkr:k≤d.length:=by have h1:=Hgk.out;omega
    obtain⟨bq,offq,hbq,hcA⟩:=ASd.at (ha.ext (hx.trans lp2.x)) rn hrn
    cases hbq
    have hnz:(rn:Int)<(t.ases.length:Int):=by omega
    have cb0:=blk2 (Aa lp2.x HB0.out);have cb1:=blk2 (Aa lp2.x HB1.out)
    go_upto_region 17 with (fail)
    go_cut [87] (fun c wx=>∃ bb:Bool,c=.bool bb∧(bb=true→k<d.length)∧wr=wx)
    case first=>
     by_cases hlt:k<d.length
     ·
      cases hco:t.ases[rn].core
      ·
       go_wp2_with fail
       go_meet
       exact⟨false,rfl,fun h=>(by cases h),rfl⟩
      go_wp2_with fail
      go_meet
      exact⟨true,rfl,fun _=>hlt,rfl⟩
     go_wp2_with fail
     go_meet
     exact⟨false,rfl,fun h=>(by cases h),rfl⟩
    case rest=>
     clear cb0 cb1 hcA;obtain⟨bb,rfl,hbb,rfl⟩:=hcut
     cases bb
     case false=>
      clear hbb;have cb0:=blk2 (Aa lp2.x HB0.out);have cb1:=blk2 (Aa lp2.x HB1.out)
      go_wp2_with fail
      clear cb0 cb1;replace lp2:=lp2.mono (m:=1280) (by omega)
      obtain⟨wn,hwn⟩:∃ z:World,z=wr:=⟨_,rfl⟩
      subst hwn
      go_loopg [9,17] u.length (fun gk out i wr=>∃ (k:Nat) (L:List Pth),gk+k=u.length∧i=.int .i64 k∧LP W3 K2 (1280+40 * k) out L wr∧(Own.keep Seg.rep).own K2 wr (.slice o_u u.length c_u) u∧(Own.keep Seg.rep).own K2 wr (.slice o_e d.length c_e) d∧wr.heap[B5]?=some (.cells #[.int .i64 0,.int .i64 0,.slice none 0 0] 116 (0,0)))
      case atStart=>exact⟨0,_,by omega,rfl,lp2,ku2,kd2,hnb⟩
      case round=>
       clear lp2 ku2 kd2 hnb;obtain⟨k,L,hgk,rfl,lp2,ku2,kd2,hnb⟩:=hrel;obtain⟨oq9,cq9,rfl,_⟩:=lp2.rd.shape;have Hgk:=Ac hgk;clear hgk;have hkr:k≤u.length:=by have h1:=Hgk.out;omega
       obtain⟨bq,offq,hbq,hcA⟩:=ASd.at (ha.ext (hx.trans lp2.x)) qn hqn
       cases hbq
       have hnz:(qn:Int)<(t.ases.length:Int):=by omega
       have cb0:=blk2 (Aa lp2.x HB0.out);have cb1:=blk2 (Aa lp2.x HB1.out)
       go_upto_region 21 with (fail)
       go_cut [116] (fun c wx=>∃ bb:Bool,c=.bool bb∧(bb=true→k<u.length)∧wr=wx)
       case first=>
        by_cases hlt:k<u.length
        ·
         cases hco:t.ases[qn].core
         ·
          go_wp2_with fail
          go_meet
          exact⟨false,rfl,fun h=>(by cases h),rfl⟩
         go_wp2_with fail
         go_meet
         exact⟨true,rfl,fun _=>hlt,rfl⟩
        go_wp2_with fail
        go_meet
        exact⟨false,rfl,fun h=>(by cases h),rfl⟩
       case rest=>
        clear cb0 cb1 hcA;obtain⟨bb,rfl,hbb,rfl⟩:=hcut
        cases bb
        case false=>
         clear hbb;have cb0:=blk2 (Aa lp2.x HB0.out);have cb1:=blk2 (Aa lp2.x HB1.out)
         go_wp2_with fail
         clear cb0 cb1;replace lp2:=lp2.mono (m:=2080) (by omega)
         obtain⟨wn,hwn⟩:∃ z:World,z=wr:=⟨_,rfl⟩
         subst hwn
         go_loopg [9,18] u.length (fun gk out i wr=>∃ (k:Nat) (L:List Pth),gk+k=u.length∧i=.int .i64 k∧LP W3 K2 (2080+800 * k) out L wr∧(Own.keep Seg.rep).own K2 wr (.slice o_u u.length c_u) u∧(Own.keep Seg.rep).own K2 wr (.slice o_e d.length c_e) d∧wr.heap[B5]?=some (.cells #[.int .i64 0,.int .i64 0,.slice none 0 0] 116 (0,0)))
         case atStart=>exact⟨0,_,by omega,rfl,lp2,ku2,kd2,hnb⟩
         case round=>
          clear lp2 ku2 kd2 hnb;obtain⟨k,L,hgk,rfl,lp2,ku2,kd2,hnb⟩:=hrel;obtain⟨oq9,cq9,rfl,_⟩:=lp2.rd.shape;have Hgk:=Ac hgk;clear hgk;have hku:k≤u.length:=by have h1:=Hgk.out;omega
          obtain⟨go,hgo⟩:∃ go:Nat,go=gk:=⟨_,rfl⟩
          rw [← hgo] at Hgk
          by_cases hlt:k<u.length
          ·
           obtain⟨m9,hm9⟩:∃ m9,m9=2080+800 * k:=⟨_,rfl⟩
           have hmb:m9≤18080:=by omega
           rw [← hm9] at lp2;have Hgo:Hid (go+k=u.length):=Hgk;have cb0:=blk2 (Aa lp2.x HB0.out);have cb1:=blk2 (Aa lp2.x HB1.out)
           go_wp2_with fail
           clear cb0 cb1
           go_loopg [9,19] d.length (fun gk out i wr=>∃ (j:Nat) (L:List Pth),gk+j=d.length∧i=.int .i64 j∧LP W3 K2 (m9+40 * j) out L wr∧(Own.keep Seg.rep).own K2 wr (.slice o_u u.length c_u) u∧(Own.keep Seg.rep).own K2 wr (.slice o_e d.length c_e) d∧wr.heap[B5]?=some (.cells #[.int .i64 0,.int .i64 0,.slice none 0 0] 116 (0,0)))
           case atStart=>exact⟨0,_,by omega,rfl,lp2,ku2,kd2,hnb⟩
           case round=>
            clear lp2 ku2 kd2 hnb Hgk;obtain⟨j,L,hgk,rfl,lp2,ku2,kd2,hnb⟩:=hrel;obtain⟨oq9,cq9,rfl,_⟩:=lp2.rd.shape;have Hgk:=Ac hgk;clear hgk;have hjd:j≤d.length:=by have h1:=Hgk.out;omega
            by_cases hlj:j<d.length
            ·
             obtain⟨b_x,offx,ohx,chx,hbbx,hcx,hrx⟩:=Seg.at (Own.rd _ ku2) k hlt
             cases hbbx
             have h6x:=hu.at k hlt
             obtain⟨x,hx9⟩:∃ y,y=u[k]:=⟨_,rfl⟩
             rw [← hx9] at hcx hrx h6x;clear hx9;obtain⟨b_y,offy,ohy,chy,hbby,hcy,hry⟩:=Seg.at (Own.rd _ kd2) j hlj
             cases hbby
             have h6y:=hd.at j hlj
             obtain⟨y,hx9⟩:∃ y,y=d[j]:=⟨_,rfl⟩
             rw [← hx9] at hcy hry h6y;clear hx9;have cb0:=blk2 (Aa lp2.x HB0.out);have cb1:=blk2 (Aa lp2.x HB1.out);have cn:=blk3 hnb
             go_upto_region 30 with (fail)
             clear cb0 cb1 cn;refine Ax (.blk [0,1,2,3,4,5,6,7,8,9,11,12,13,14,16,17,18,19] (.one 10 (.one 15 (.one 20 (.one 21 (.blk [22] .done)))))) [21] (by kernel_rfl) (by kernel_rfl) ?_;have hd0:Ext wr wr.drew:=(Ab _).drew;generalize wr.drew=wd at hd0 ⊢
             have lq:=lp2.ext hd0;have cn:=blk3 (Aa hd0 hnb);have cb0:=blk2 (Aa lq.x HB0.out);have cb1:=blk2 (Aa lq.x HB1.out);have hcdx:=Ci hd0 hcx;have hcdy:=Ci hd0 hcy;refine blkStep (fun K HK=>?_);simp only [PK]
             go_wp2_with fail
             refine HK.out _ _ ?_;clear HK K;clear cn cb0 cb1 hcdx hcdy;refine oneStep (fun K HK=>?_);simp only [PK]
             go_wp2_with fail
             refine(s_FirstASn x _ _ (hrx.ext hd0)).mono ?_;rintro e wf0 ⟨qf0,rfl,_,hf0⟩
             go_wp2_with fail
             refine HK.out _ _ hf0 ?_;clear HK K;refine oneStep (fun K HK=>?_);simp only [PK]
             go_wp2_with fail
             refine(s_FirstASn y _ _ (hry.ext (hd0.trans hf0))).mono ?_;rintro e wf1 ⟨qf1,rfl,_,hf1⟩
             go_wp2_with fail
             refine HK.out _ _ hf1 ?_;clear HK K;refine oneStep (fun K HK=>?_);simp only [PK]
             go_wp2_with fail
             refine(s_l23Cores C _ _ x y _ _ _ _ _ (rc.ext ((hx.trans lp2.x).trans ((hd0.trans hf0).trans hf1))) (hrx.ext ((hd0.trans hf0).trans hf1)) (hry.ext ((hd0.trans hf0).trans hf1)) hC h6x h6y).mono ?_;rintro e w5 ⟨vS,LS,rfl,hLS,oS,h5⟩
             go_wp2_with fail
             refine HK.out _ _ h5 ?_;clear HK K;have hxs:=Ac (((hd0.trans hf0).trans hf1).trans h5);have hbs:wr.heap.size≤wf1.heap.size:=Ext.size ((hd0.trans hf0).trans hf1);have hLl:=lp2.bd.1;have hLm:=hLS.1;obtain⟨oq,cq,rfl,_⟩:=(Pth.ord oS).shape;obtain⟨S,hoS,hS⟩:=lp2.own;refine badStep (by kernel_rfl) (fun K HK=>?_);simp only [PK];refine appGS (c:=Pth.c) (hc:=Pth.clen) (sub:=(·.parts)) (I:=Part.own) (S:=S) (S2:=rng wf1.heap.size w5.heap.size) E rfl _ _ rfl pth_oneG rfl (Aj hoS hxs.out) rfl oS (fun q hq e=>by have h2:=(hS q hq).2.1;have h3:=e.1;omega) (by omega) (by unfold maxLen;omega) ?_;intro v' w' ho' hg' hvS
             obtain ⟨ln, hcg⟩ := lp2.grown hS hxs.out hg' hvS ho' (fun q hq => by
              rcases hq with (hq | hq) | hq
              ·
               exact .inl hq
              ·
               exact .inr ⟨Ad hbs hq.1, Ak hq.2 hg'.size⟩
              exact .inr ⟨Ad hxs.out.size hq.1, hq.2⟩) (lp2.bd.app hLS (Ae _))
             have kun:=keepK ku2 hcg;have kdn:=keepK kd2 hcg;have hnn:=hcg.blkS hnb (fun e=>e hKb);clear hcg hg' hvS ho' hoS hS oS lq
             go_wp2_with fail
             refine HK.out _ _ ?_;clear HK K;refine blkStep (fun K HK=>?_);simp only [PK]
             go_wp2_with fail
             refine HK.out _ _ ?_;clear HK K;refine Ap (by kernel_rfl) ?_
             go_wp2_with fail
             go_roundg (gk - 1)
             case measure=>have h1:=Hgk.out;omega
             case rel=>exact⟨j+1,_,by have h1:=Hgk.out;omega,congrArg (Value.int .i64) (by first | omega | (unfold wrap64;omega)),ln.mono (by omega),kun,kdn,hnn⟩
            go_wp2_with fail
            go_roundg (go - 1)
            case measure=>have h1:=Hgo.out;omega
            case rel=>exact⟨k+1,L,by have h1:=Hgo.out;omega,congrArg (Value.int .i64) (by first | omega | (unfold wrap64;omega)),lp2.mono (by omega),ku2,kd2,hnb⟩
          go_wp2_with fail
          go_ret
          exact⟨_,L,rfl,lp2.bd.mono (by omega),lp2.fin hx.size,hx.trans lp2.x⟩
        case true=>
         have hlt:=hbb rfl;clear hbb;obtain⟨b_x,offx,ohx,chx,hbbx,hcx,hrx⟩:=Seg.at (Own.rd _ ku2) k hlt
         cases hbbx
         have h6x:=hu.at k hlt
         obtain⟨x,hx9⟩:∃ y,y=u[k]:=⟨_,rfl⟩
         rw [← hx9] at hcx hrx h6x;clear hx9;have cb0:=blk2 (Aa lp2.x HB0.out);have cb1:=blk2 (Aa lp2.x HB1.out);have cn:=blk3 hnb
         go_upto_region 23 with (fail)
         clear cb0 cb1 cn;refine Ax (.blk [0,1,2,3,4,5,6,7,8,9,11,12] (.one 10 (.one 13 (.one 14 (.blk [15] .done))))) [14] (by kernel_rfl) (by kernel_rfl) ?_;have hd0:Ext wr wr.drew:=(Ab _).drew;generalize wr.drew=wd at hd0 ⊢
         have lq:=lp2.ext hd0;have cn:=blk3 (Aa hd0 hnb);have cb0:=blk2 (Aa lq.x HB0.out);have cb1:=blk2 (Aa lq.x HB1.out);have hcdx:=Ci hd0 hcx;refine blkStep (fun K HK=>?_);simp only [PK]
         go_wp2_with fail
         refine HK.out _ _ ?_;clear HK K;clear cn cb0 cb1 hcdx;refine oneStep (fun K HK=>?_);simp only [PK]
         go_wp2_with fail
         refine(s_FirstASn x _ _ (hrx.ext hd0)).mono ?_;rintro e wf0 ⟨qf0,rfl,_,hf0⟩
         go_wp2_with fail
         refine HK.out _ _ hf0 ?_;clear HK K;refine oneStep (fun K HK=>?_);simp only [PK]
         go_wp2_with fail
         refine(s_l23Cores C _ _ x (⟨0,0,[]⟩:Seg) _ _ _ _ _ (rc.ext ((hx.trans lp2.x).trans (hd0.trans hf0))) (hrx.ext (hd0.trans hf0)) (RdS.nil _ _) hC h6x (by simp)).mono ?_;rintro e w5 ⟨vS,LS,rfl,hLS,oS,h5⟩
         go_wp2_with fail
         refine HK.out _ _ h5 ?_;clear HK K;have hxs:=Ac ((hd0.trans hf0).trans h5);have hbs:wr.heap.size≤wf0.heap.size:=Ext.size (hd0.trans hf0);have hLl:=lp2.bd.1;have hLm:=hLS.1;obtain⟨oq,cq,rfl,_⟩:=(Pth.ord oS).shape;obtain⟨S,hoS,hS⟩:=lp2.own;refine badStep (by kernel_rfl) (fun K HK=>?_);simp only [PK];refine appGS (c:=Pth.c) (hc:=Pth.clen) (sub:=(·.parts)) (I:=Part.own) (S:=S) (S2:=rng wf0.heap.size w5.heap.size) E rfl _ _ rfl pth_oneG rfl (Aj hoS hxs.out) rfl oS (fun q hq e=>by have h2:=(hS q hq).2.1;have h3:=e.1;omega) (by omega) (by unfold maxLen;omega) ?_;intro v' w' ho' hg' hvS
         obtain ⟨ln, hcg⟩ := lp2.grown hS hxs.out hg' hvS ho' (fun q hq => by
          rcases hq with (hq | hq) | hq
          ·
           exact .inl hq
          ·
           exact .inr ⟨Ad hbs hq.1, Ak hq.2 hg'.size⟩
          exact .inr ⟨Ad hxs.out.size hq.1, hq.2⟩) (lp2.bd.app hLS (Ae _))
         have kun:=keepK ku2 hcg;have kdn:=keepK kd2 hcg;have hnn:=hcg.blkS hnb (fun e=>e hKb);clear hcg hg' hvS ho' hoS hS oS lq
         go_wp2_with fail
         refine HK.out _ _ ?_;clear HK K;refine blkStep (fun K HK=>?_);simp only [PK]
         go_wp2_with fail
         refine HK.out _ _ ?_;clear HK K;refine Ap (by kernel_rfl) ?_
         go_wp2_with fail
         go_roundg (gk - 1)
         case measure=>have h1:=Hgk.out;omega
         case rel=>exact⟨k+1,_,by have h1:=Hgk.out;omega,congrArg (Value.int .i64) (by first | omega | (unfold wrap64;omega)),ln.mono (by omega),kun,kdn,hnn⟩
     case true=>
      have hlt:=hbb rfl;clear hbb;obtain⟨b_x,offx,ohx,chx,hbbx,hcx,hrx⟩:=Seg.at (Own.rd _ kd2) k hlt
      cases hbbx
      have h6x:=hd.at k hlt
      obtain⟨x,hx9⟩:∃ y,y=d[k]:=⟨_,rfl⟩
      rw [← hx9] at hcx hrx h6x;clear hx9;have cb0:=blk2 (Aa lp2.x HB0.out);have cb1:=blk2 (Aa lp2.x HB1.out);have cn:=blk3 hnb
      go_upto_region 19 with (fail)
      clear cb0 cb1 cn;refine Ax (.blk [0,1,2,3,4,5,6,7,9,10,11,12] (.one 8 (.one 13 (.one 14 (.blk [15] .done))))) [14] (by kernel_rfl) (by kernel_rfl) ?_;have hd0:Ext wr wr.drew:=(Ab _).drew;generalize wr.drew=wd at hd0 ⊢
      have lq:=lp2.ext hd0;have cn:=blk3 (Aa hd0 hnb);have cb0:=blk2 (Aa lq.x HB0.out);have cb1:=blk2 (Aa lq.x HB1.out);have hcdx:=Ci hd0 hcx;refine blkStep (fun K HK=>?_);simp only [PK]
      go_wp2_with fail
      refine HK.out _ _ ?_;clear HK K;clear cn cb0 cb1 hcdx;refine oneStep (fun K HK=>?_);simp only [PK]
      go_wp2_with fail
      refine(s_FirstASn x _ _ (hrx.ext hd0)).mono ?_;rintro e wf0 ⟨qf0,rfl,_,hf0⟩
      go_wp2_with fail
      refine HK.out _ _ hf0 ?_;clear HK K;refine oneStep (fun K HK=>?_);simp only [PK]
      go_wp2_with fail
      refine(s_l23Cores C _ _ (⟨0,0,[]⟩:Seg) x _ _ _ _ _ (rc.ext ((hx.trans lp2.x).trans (hd0.trans hf0))) (RdS.nil _ _) (hrx.ext (hd0.trans hf0)) hC (by simp) h6x).mono ?_;rintro e w5 ⟨vS,LS,rfl,hLS,oS,h5⟩
      go_wp2_with fail
      refine HK.out _ _ h5 ?_;clear HK K;have hxs:=Ac ((hd0.trans hf0).trans h5);have hbs:wr.heap.size≤wf0.heap.size:=Ext.size (hd0.trans hf0);have hLl:=lp2.bd.1;have hLm:=hLS.1;obtain⟨oq,cq,rfl,_⟩:=(Pth.ord oS).shape;obtain⟨S,hoS,hS⟩:=lp2.own;refine badStep (by kernel_rfl) (fun K HK=>?_);simp only [PK];refine appGS (c:=Pth.c) (hc:=Pth.clen) (sub:=(·.parts)) (I:=Part.own) (S:=S) (S2:=rng wf0.heap.size w5.heap.size) E rfl _ _ rfl pth_oneG rfl (Aj hoS hxs.out) rfl oS (fun q hq e=>by have h2:=(hS q hq).2.1;have h3:=e.1;omega) (by omega) (by unfold maxLen;omega) ?_;intro v' w' ho' hg' hvS
      obtain ⟨ln, hcg⟩ := lp2.grown hS hxs.out hg' hvS ho' (fun q hq => by
       rcases hq with (hq | hq) | hq
       ·
        exact .inl hq
       ·
        exact .inr ⟨Ad hbs hq.1, Ak hq.2 hg'.size⟩
       exact .inr ⟨Ad hxs.out.size hq.1, hq.2⟩) (lp2.bd.app hLS (Ae _))
      have kun:=keepK ku2 hcg;have kdn:=keepK kd2 hcg;have hnn:=hcg.blkS hnb (fun e=>e hKb);clear hcg hg' hvS ho' hoS hS oS lq
      go_wp2_with fail
      refine HK.out _ _ ?_;clear HK K;refine blkStep (fun K HK=>?_);simp only [PK]
      go_wp2_with fail
      refine HK.out _ _ ?_;clear HK K;refine Ap (by kernel_rfl) ?_
      go_wp2_with fail
      go_roundg (gk - 1)
      case measure=>have h1:=Hgk.out;omega
      case rel=>exact⟨k+1,_,by have h1:=Hgk.out;omega,congrArg (Value.int .i64) (by first | omega | (unfold wrap64;omega)),ln.mono (by omega),kun,kdn,hnn⟩
 have cf11:=blk2 HB0.out.1;have cf12:=blk2 HB0.out.2
 go_wp2_with fail
 have hlp:=(pths_none ((w.alloc (.cells #[.slice o_t t.ases.length c_t,v2] 27)).alloc (.cells #[.slice o_d D.length c_d,.slice o_c C.length c_c] 108))).fin (w9:=w) hx0.size
 go_ret
 exact⟨_,[],rfl,⟨by simp,by simp⟩,(by first | exact hlp | (simp only [nblk_alloc] at hlp ⊢;exact hlp)),hx0.alloc _⟩
end
end Go.Proofs.YteodlcpeoaggbaaGreat
