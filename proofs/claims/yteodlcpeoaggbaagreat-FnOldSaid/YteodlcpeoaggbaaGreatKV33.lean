/- What these laws need: FnOld: Joined paths, and all paths of a book, said as how many there are and how long they are. -/
import Derived.Test.YteodlcpeoaggbaaGreatKV30
namespace Go.Proofs.YteodlcpeoaggbaaGreat
section
open Go.ChangeShapes Go.WideShapes Go.ChangeAt Go.RowKit Go.Deep
set_option maxRecDepth 100000
set_option maxHeartbeats 16000000
def PBd (n:Nat) (l:List Part):Prop:=l.length≤n∧∀ x∈l,x.hops.length≤6
theorem PBd.snoc {n:Nat} {l:List Part} {x:Part} (h:PBd n l) (hx:x.hops.length≤6):PBd (n+1) (l ++ [x]):=
 ⟨by have := h.1; simp; omega, fun y hy => by
  rcases List.mem_append.1 hy with h1 | h1
  ·
   exact h.2 y h1
  obtain rfl := List.mem_singleton.1 h1; exact hx⟩
theorem PBd.mono {n m:Nat} {l:List Part} (h:PBd n l) (hm:n≤m):PBd m l:=⟨Ad h.1 hm,h.2⟩
theorem s_JoinThree (a b d:Seg) (va vb vd:Value) (back:Bool) (w:World) (ra:RdS Hop.rep w va a.hops) (rb:RdS Hop.rep w vb b.hops) (rd:RdS Hop.rep w vd d.hops) (ha:a.hops.length≤6) (hb:b.hops.length≤6) (hd:d.hops.length≤6) :
  Calls Tryz.prog 172 #[.agg #[.int .i64 a.ts,.int .i64 a.beta,va],.agg #[.int .i64 b.ts,.int .i64 b.beta,vb],.bool back,.agg #[.int .i64 d.ts,.int .i64 d.beta,vd]] w fun e w'=>∃ (v:Value) (l:List Part),e=.returned (.agg #[v])∧PBd 3 l∧Part.own.own (rng w.heap.size w'.heap.size) w' v l∧Ext w w':=by
 obtain⟨E⟩:=elemPartC;obtain⟨o_a,c_a,rfl,_⟩:=ra.shape;obtain⟨o_b,c_b,rfl,_⟩:=rb.shape;obtain⟨o_d,c_d,rfl,_⟩:=rd.shape;have hx0:=(ext3 w (.cells #[.int .i64 a.ts,.int .i64 a.beta,.slice o_a a.hops.length c_a] 116) (.cells #[.int .i64 b.ts,.int .i64 b.beta,.slice o_b b.hops.length c_b] 116) (.cells #[.int .i64 d.ts,.int .i64 d.beta,.slice o_d d.hops.length c_d] 116)).alloc (.cells #[.slice none 0 0] 30);have hB:=al3 w (.cells #[.int .i64 a.ts,.int .i64 a.beta,.slice o_a a.hops.length c_a] 116) (.cells #[.int .i64 b.ts,.int .i64 b.beta,.slice o_b b.hops.length c_b] 116) (.cells #[.int .i64 d.ts,.int .i64 d.beta,.slice o_d d.hops.length c_d] 116);have hBa:=Aa ((Ab _).alloc (.cells #[.slice none 0 0] 30)) hB.1;have hBb:=Aa ((Ab _).alloc (.cells #[.slice none 0 0] 30)) hB.2.1;have hBd:=Aa ((Ab _).alloc (.cells #[.slice none 0 0] 30)) hB.2.2;have hBr:=blk_new (((w.alloc (.cells #[.int .i64 a.ts,.int .i64 a.beta,.slice o_a a.hops.length c_a] 116)).alloc (.cells #[.int .i64 b.ts,.int .i64 b.beta,.slice o_b b.hops.length c_b] 116)).alloc (.cells #[.int .i64 d.ts,.int .i64 d.beta,.slice o_d d.hops.length c_d] 116)) (.cells #[.slice none 0 0] 30)
 obtain⟨W4,hW4⟩:∃ W4:World,W4=((((w.alloc (.cells #[.int .i64 a.ts,.int .i64 a.beta,.slice o_a a.hops.length c_a] 116)).alloc (.cells #[.int .i64 b.ts,.int .i64 b.beta,.slice o_b b.hops.length c_b] 116)).alloc (.cells #[.int .i64 d.ts,.int .i64 d.beta,.slice o_d d.hops.length c_d] 116)).alloc (.cells #[.slice none 0 0] 30)):=⟨_,rfl⟩
 have hs4:W4.heap.size=w.heap.size+1+1+1+1:=by rw [hW4];simp
 simp only [nblk_alloc] at hBr;rw [← hW4] at hx0 hBa hBb hBd hBr;clear hB;have hp:=blk_new W4 (.cells #[.slice none 0 0] 30);have hx:=(Ab W4).alloc (.cells #[.slice none 0 0] 30);have ho:Part.own.own (rng (W4.heap.size+1) (W4.alloc (.cells #[.slice none 0 0] 30)).heap.size) (W4.alloc (.cells #[.slice none 0 0] 30)) (.slice none 0 0) []:=Part.own.mono (Part.own.nil _) (fun b hb=>hb.elim);have HS4:=Ac hs4
 go_enter Tryz.func172,Tryz.ntmps172
 go_upto_region 2 with (fail)
 rw [← hW4];clear hW4;rw [show w.heap.size+1+1+1+1=W4.heap.size from HS4.out.symm]
 obtain⟨b9,hb9⟩:∃ b9,b9=W4.heap.size:=⟨_,rfl⟩
 have hb9w:w.heap.size≤b9:=by omega
 have HB9:=Ac hb9;clear hs4;generalize hwx:W4.alloc (.cells #[.slice none 0 0] 30)=wx at hp hx ho ⊢
 clear hwx;rw [← hb9] at hp ho ⊢
 clear hb9
 have hL:PBd 0 []:=⟨Ae _,by simp⟩
 obtain⟨o,c,L,HL⟩:∃ (o:Option Addr) (c:Nat) (L:List Part),wx.heap[b9]?=some (.cells #[.slice o L.length c] 30 (0,0))∧Part.own.own (rng (b9+1) wx.heap.size) wx (.slice o L.length c) L∧PBd 0 L:=⟨none,0,[],hp,ho,hL⟩
 clear hp ho hL;obtain⟨hp,ho,hL⟩:=HL;have cb:=blk3 (Aa hx hBa)
 go_upto_if 15 with (fail)
 clear cb
 go_cut [] (fun wy=>∃ (o:Option Addr) (c:Nat) (L:List Part),wy.heap[b9]?=some (.cells #[.slice o L.length c] 30 (0,0))∧Part.own.own (rng (b9+1) wy.heap.size) wy (.slice o L.length c) L∧PBd 1 L∧Ext W4 wy)
 case first=>
  have cb:=blk3 (Aa hx hBa)
  by_cases h0:(0:Int)<(a.hops.length:Int)
  ·
   have cp:=blk1 hp
   go_upto_region 3 with (fail)
   replace ho:=Bg (Aj ho ((Ab wx).drew)) (Ae _);replace hx:=hx.drew;have hp2:=Aa ((Ab wx).drew) hp;clear cp cb;refine Ax (.blk [0,1,2] (.one 3 (.one 4 (.one 5 (.blk [6] (.one 7 .done)))))) [5,7] (by kernel_rfl) (by kernel_rfl) ?_;generalize wx.drew=wd at hx ho hp2 ⊢
   clear hp;have hb9d:b9<wd.heap.size:=blk_lt hp2;have cp:=blk1 hp2;have cb:=blk3 (Aa hx hBa);refine blkStep (fun K HK=>?_);simp only [PK]
   go_wp2_with fail
   refine HK.out _ _ ?_;clear HK K;clear cp cb;refine oneStep (fun K HK=>?_);simp only [PK]
   go_wp2_with fail
   refine(s_MakePart a _ 1 0 _ (ra.ext (hx0.t hx)) (by omega)).mono ?_;rintro e w1 ⟨u,rfl,ou,h1⟩
   go_wp2_with fail
   refine HK.out _ _ h1 ?_;clear HK K;have hml:=makePart_len a 1 0
   obtain⟨X,hX⟩:∃ X,X=makePart a 1 0:=⟨_,rfl⟩
   rw [← hX] at ou hml ⊢
   clear hX;obtain⟨oo,co,rfl,_⟩:=(Bb (hf:=Ao) ou).shape;refine oneStep (fun K HK=>?_);simp only [PK]
   go_wp2_with fail
   refine HK.out _ _ ((Ab _).alloc _) ?_;clear HK K;have hLl:=hL.1;refine badStep (by kernel_rfl) (fun K HK=>?_);simp only [PK];refine appN (lo:=b9+1) (w0:=wd) (c:=Part.c) (hc:=Part.clen) (sub:=(·.hops)) (I:=Own.flat Hop.f 5 Ao 103) E rfl _ _ rfl X (.slice oo X.hops.length co) (rng wd.heap.size w1.heap.size) (part_oneC _ _ _ _) rfl ho (h1.alloc _) (Aj (O:=Own.flat Hop.f 5 Ao 103) (Own.ofF (hf:=Ao) ou) ((Ab _).alloc _)) (fun q hq=>⟨hq.1,by have h2:=hq.2;simp;omega⟩) hb9d rfl (by exact Au (Part.c X (.slice oo X.hops.length co)) (blk_new w1 _)) (by omega) (by unfold maxLen;omega) ?_;intro v' w' ho' hg' hvlo;have hpB:=Aa (h1.alloc (.cells #[.int .i64 X.kind,.int .i64 X.ts,.int .i64 X.beta,.slice oo X.hops.length co] 99)) hp2;have hp3:=(hg'.block b9 (blk_lt hpB) (fun e=>by have:=hvlo _ e.symm;omega)).trans hpB;have hx':=((hx.trans h1).alloc (.cells #[.int .i64 X.kind,.int .i64 X.ts,.int .i64 X.beta,.slice oo X.hops.length co] 99)).grown hg' (fun q hq=>by have:=hvlo q hq;have h8:=HB9.out;omega);clear hg' hvlo hpB hp2 ho ou hx
   go_wp2_with fail
   refine HK.out _ _ ?_;clear HK K;have e1:(L ++ [X]).length=L.length+1:=by simp
   obtain⟨oN,cN,rfl⟩:∃ oN cN,v'=.slice oN (L.length+1) cN:=by obtain⟨o',c',h,_⟩:=(Bs ho').shape;exact⟨o',c',by rw [h,e1]⟩
   have HE1:=Ac e1;clear e1;refine blkStep (fun K HK=>?_);simp only [PK]
   go_wp2_with fail
   refine HK.out _ _ ?_;clear HK K;obtain⟨wq,hwq,hbq,hcq⟩:=one_set hp3 0 (.slice oN (L.length+1) cN);simp only [List.setIfInBounds_toArray,List.set_cons_zero] at hbq;have HQ:=Ac (⟨hbq,Bg (Own.kept _ ho' hcq (fun b hb e=>by have h2:=hb.1;have h3:b=b9:=e;omega)) (Ae _),hL.snoc (by omega),hx'.chg hcq (fun i hi=>by have h3:i=b9:=hi;have h8:=HB9.out;omega)⟩:wq.heap[b9]?=some (.cells #[.slice oN (L.length+1) cN] 30 (0,0))∧Part.own.own (rng (b9+1) wq.heap.size) wq (.slice oN (L.length+1) cN) (L ++ [X])∧PBd 1 (L ++ [X])∧Ext W4 wq);have HWQ:=Ac hwq;have cp:=blk1 hp3;have fp:=fr_of hp3 0;clear hwq hbq hcq hx' ho' hp3;refine badStep (by kernel_rfl) (fun K HK=>?_);simp only [PK]
   go_wp2_with fail
   refine HK.out _ _ ?_;clear HK K cp fp;refine Ap (by kernel_rfl) ?_;rw [← HWQ.out]
   go_wp2_with fail
   go_meet
   exact⟨oN,cN,L ++ [X],by rw [HE1.out];exact HQ.out⟩
  go_wp2_with fail
  go_meet
  exact⟨o,c,L,hp,ho,hL.mono (Nat.le_succ _),hx⟩
 case rest=>
  clear hp ho hL hx;obtain⟨o,c,L,hp,ho,hL,hx⟩:=hcut
  obtain⟨wz0,hwz⟩:∃ wz:World,wz=wc:=⟨_,rfl⟩
  subst hwz;have cb:=blk3 (Aa hx hBb)
  go_upto_if 26 with (fail)
  clear cb
  go_cut [] (fun wy=>∃ (o:Option Addr) (c:Nat) (L:List Part),wy.heap[b9]?=some (.cells #[.slice o L.length c] 30 (0,0))∧Part.own.own (rng (b9+1) wy.heap.size) wy (.slice o L.length c) L∧PBd 2 L∧Ext W4 wy)
  case first=>
   have cb:=blk3 (Aa hx hBb)
   by_cases h0:(0:Int)<(b.hops.length:Int)
   ·
    cases back
    ·
     have cp:=blk1 hp
     go_upto_region 8 with (fail)
     replace ho:=Bg (Aj ho ((Ab wz0).drew)) (Ae _);replace hx:=hx.drew;have hp2:=Aa ((Ab wz0).drew) hp;clear cp cb;refine Ax (.blk [0,1,2,3] (.one 4 (.one 5 (.one 6 (.blk [7] (.one 8 .done)))))) [6,8] (by kernel_rfl) (by kernel_rfl) ?_;generalize wz0.drew=wd at hx ho hp2 ⊢
     clear hp;have hb9d:b9<wd.heap.size:=blk_lt hp2;have cp:=blk1 hp2;have cb:=blk3 (Aa hx hBb);refine blkStep (fun K HK=>?_);simp only [PK]
     go_wp2_with fail
     refine HK.out _ _ ?_;clear HK K;clear cp cb;refine oneStep (fun K HK=>?_);simp only [PK]
     go_wp2_with fail
     refine(s_MakePart b _ 2 0 _ (rb.ext (hx0.t hx)) (by omega)).mono ?_;rintro e w1 ⟨u,rfl,ou,h1⟩
     go_wp2_with fail
     refine HK.out _ _ h1 ?_;clear HK K;have hml:=makePart_len b 2 0
     obtain⟨X,hX⟩:∃ X,X=makePart b 2 0:=⟨_,rfl⟩
     rw [← hX] at ou hml ⊢
     clear hX;obtain⟨oo,co,rfl,_⟩:=(Bb (hf:=Ao) ou).shape;refine oneStep (fun K HK=>?_);simp only [PK]
     go_wp2_with fail
     refine HK.out _ _ ((Ab _).alloc _) ?_;clear HK K;have hLl:=hL.1;refine badStep (by kernel_rfl) (fun K HK=>?_);simp only [PK];refine appN (lo:=b9+1) (w0:=wd) (c:=Part.c) (hc:=Part.clen) (sub:=(·.hops)) (I:=Own.flat Hop.f 5 Ao 103) E rfl _ _ rfl X (.slice oo X.hops.length co) (rng wd.heap.size w1.heap.size) (part_oneC _ _ _ _) rfl ho (h1.alloc _) (Aj (O:=Own.flat Hop.f 5 Ao 103) (Own.ofF (hf:=Ao) ou) ((Ab _).alloc _)) (fun q hq=>⟨hq.1,by have h2:=hq.2;simp;omega⟩) hb9d rfl (by exact Au (Part.c X (.slice oo X.hops.length co)) (blk_new w1 _)) (by omega) (by unfold maxLen;omega) ?_;intro v' w' ho' hg' hvlo;have hpB:=Aa (h1.alloc (.cells #[.int .i64 X.kind,.int .i64 X.ts,.int .i64 X.beta,.slice oo X.hops.length co] 99)) hp2;have hp3:=(hg'.block b9 (blk_lt hpB) (fun e=>by have:=hvlo _ e.symm;omega)).trans hpB;have hx':=((hx.trans h1).alloc (.cells #[.int .i64 X.kind,.int .i64 X.ts,.int .i64 X.beta,.slice oo X.hops.length co] 99)).grown hg' (fun q hq=>by have:=hvlo q hq;have h8:=HB9.out;omega);clear hg' hvlo hpB hp2 ho ou hx
     go_wp2_with fail
     refine HK.out _ _ ?_;clear HK K;have e1:(L ++ [X]).length=L.length+1:=by simp
     obtain⟨oN,cN,rfl⟩:∃ oN cN,v'=.slice oN (L.length+1) cN:=by obtain⟨o',c',h,_⟩:=(Bs ho').shape;exact⟨o',c',by rw [h,e1]⟩
     have HE1:=Ac e1;clear e1;refine blkStep (fun K HK=>?_);simp only [PK]
     go_wp2_with fail
     refine HK.out _ _ ?_;clear HK K;obtain⟨wq,hwq,hbq,hcq⟩:=one_set hp3 0 (.slice oN (L.length+1) cN);simp only [List.setIfInBounds_toArray,List.set_cons_zero] at hbq;have HQ:=Ac (⟨hbq,Bg (Own.kept _ ho' hcq (fun b hb e=>by have h2:=hb.1;have h3:b=b9:=e;omega)) (Ae _),hL.snoc (by omega),hx'.chg hcq (fun i hi=>by have h3:i=b9:=hi;have h8:=HB9.out;omega)⟩:wq.heap[b9]?=some (.cells #[.slice oN (L.length+1) cN] 30 (0,0))∧Part.own.own (rng (b9+1) wq.heap.size) wq (.slice oN (L.length+1) cN) (L ++ [X])∧PBd 2 (L ++ [X])∧Ext W4 wq);have HWQ:=Ac hwq;have cp:=blk1 hp3;have fp:=fr_of hp3 0;clear hwq hbq hcq hx' ho' hp3;refine badStep (by kernel_rfl) (fun K HK=>?_);simp only [PK]
     go_wp2_with fail
     refine HK.out _ _ ?_;clear HK K cp fp;refine Ap (by kernel_rfl) ?_;rw [← HWQ.out]
     go_wp2_with fail
     go_meet
     exact⟨oN,cN,L ++ [X],by rw [HE1.out];exact HQ.out⟩
    have cp:=blk1 hp
    go_upto_region 8 with (fail)
    replace ho:=Bg (Aj ho ((Ab wz0).drew)) (Ae _);replace hx:=hx.drew;have hp2:=Aa ((Ab wz0).drew) hp;clear cp cb;refine Ax (.blk [0,1,2,3] (.one 4 (.one 5 (.one 6 (.blk [7] (.one 8 .done)))))) [6,8] (by kernel_rfl) (by kernel_rfl) ?_;generalize wz0.drew=wd at hx ho hp2 ⊢
    clear hp;have hb9d:b9<wd.heap.size:=blk_lt hp2;have cp:=blk1 hp2;have cb:=blk3 (Aa hx hBb);refine blkStep (fun K HK=>?_);simp only [PK]
    go_wp2_with fail
    refine HK.out _ _ ?_;clear HK K;clear cp cb;refine oneStep (fun K HK=>?_);simp only [PK]
    go_wp2_with fail
    refine(s_MakePart b _ 3 0 _ (rb.ext (hx0.t hx)) (by omega)).mono ?_;rintro e w1 ⟨u,rfl,ou,h1⟩
    go_wp2_with fail
    refine HK.out _ _ h1 ?_;clear HK K;have hml:=makePart_len b 3 0
    obtain⟨X,hX⟩:∃ X,X=makePart b 3 0:=⟨_,rfl⟩
    rw [← hX] at ou hml ⊢
    clear hX;obtain⟨oo,co,rfl,_⟩:=(Bb (hf:=Ao) ou).shape;refine oneStep (fun K HK=>?_);simp only [PK]
    go_wp2_with fail
    refine HK.out _ _ ((Ab _).alloc _) ?_;clear HK K;have hLl:=hL.1;refine badStep (by kernel_rfl) (fun K HK=>?_);simp only [PK];refine appN (lo:=b9+1) (w0:=wd) (c:=Part.c) (hc:=Part.clen) (sub:=(·.hops)) (I:=Own.flat Hop.f 5 Ao 103) E rfl _ _ rfl X (.slice oo X.hops.length co) (rng wd.heap.size w1.heap.size) (part_oneC _ _ _ _) rfl ho (h1.alloc _) (Aj (O:=Own.flat Hop.f 5 Ao 103) (Own.ofF (hf:=Ao) ou) ((Ab _).alloc _)) (fun q hq=>⟨hq.1,by have h2:=hq.2;simp;omega⟩) hb9d rfl (by exact Au (Part.c X (.slice oo X.hops.length co)) (blk_new w1 _)) (by omega) (by unfold maxLen;omega) ?_;intro v' w' ho' hg' hvlo;have hpB:=Aa (h1.alloc (.cells #[.int .i64 X.kind,.int .i64 X.ts,.int .i64 X.beta,.slice oo X.hops.length co] 99)) hp2;have hp3:=(hg'.block b9 (blk_lt hpB) (fun e=>by have:=hvlo _ e.symm;omega)).trans hpB;have hx':=((hx.trans h1).alloc (.cells #[.int .i64 X.kind,.int .i64 X.ts,.int .i64 X.beta,.slice oo X.hops.length co] 99)).grown hg' (fun q hq=>by have:=hvlo q hq;have h8:=HB9.out;omega);clear hg' hvlo hpB hp2 ho ou hx
    go_wp2_with fail
    refine HK.out _ _ ?_;clear HK K;have e1:(L ++ [X]).length=L.length+1:=by simp
    obtain⟨oN,cN,rfl⟩:∃ oN cN,v'=.slice oN (L.length+1) cN:=by obtain⟨o',c',h,_⟩:=(Bs ho').shape;exact⟨o',c',by rw [h,e1]⟩
    have HE1:=Ac e1;clear e1;refine blkStep (fun K HK=>?_);simp only [PK]
    go_wp2_with fail
    refine HK.out _ _ ?_;clear HK K;obtain⟨wq,hwq,hbq,hcq⟩:=one_set hp3 0 (.slice oN (L.length+1) cN);simp only [List.setIfInBounds_toArray,List.set_cons_zero] at hbq;have HQ:=Ac (⟨hbq,Bg (Own.kept _ ho' hcq (fun b hb e=>by have h2:=hb.1;have h3:b=b9:=e;omega)) (Ae _),hL.snoc (by omega),hx'.chg hcq (fun i hi=>by have h3:i=b9:=hi;have h8:=HB9.out;omega)⟩:wq.heap[b9]?=some (.cells #[.slice oN (L.length+1) cN] 30 (0,0))∧Part.own.own (rng (b9+1) wq.heap.size) wq (.slice oN (L.length+1) cN) (L ++ [X])∧PBd 2 (L ++ [X])∧Ext W4 wq);have HWQ:=Ac hwq;have cp:=blk1 hp3;have fp:=fr_of hp3 0;clear hwq hbq hcq hx' ho' hp3;refine badStep (by kernel_rfl) (fun K HK=>?_);simp only [PK]
    go_wp2_with fail
    refine HK.out _ _ ?_;clear HK K cp fp;refine Ap (by kernel_rfl) ?_;rw [← HWQ.out]
    go_wp2_with fail
    go_meet
    exact⟨oN,cN,L ++ [X],by rw [HE1.out];exact HQ.out⟩
   go_wp2_with fail
   go_meet
   exact⟨o,c,L,hp,ho,hL.mono (Nat.le_succ _),hx⟩
  case rest=>
   clear hp ho hL hx;obtain⟨o,c,L,hp,ho,hL,hx⟩:=hcut
   obtain⟨wz1,hwz⟩:∃ wz:World,wz=wc:=⟨_,rfl⟩
   subst hwz;have cb:=blk3 (Aa hx hBd)
   go_upto_if 39 with (fail)
   clear cb
   go_cut [] (fun wy=>∃ (o:Option Addr) (c:Nat) (L:List Part),wy.heap[b9]?=some (.cells #[.slice o L.length c] 30 (0,0))∧Part.own.own (rng (b9+1) wy.heap.size) wy (.slice o L.length c) L∧PBd 3 L∧Ext W4 wy)
   case first=>
    have cb:=blk3 (Aa hx hBd)
    by_cases h0:(0:Int)<(d.hops.length:Int)
    ·
     have cp:=blk1 hp
     go_upto_region 10 with (fail)
     replace ho:=Bg (Aj ho ((Ab wz1).drew)) (Ae _);replace hx:=hx.drew;have hp2:=Aa ((Ab wz1).drew) hp;clear cp cb;refine Ax (.blk [0,1,2] (.one 3 (.one 4 (.one 5 (.blk [6] (.one 7 .done)))))) [5,7] (by kernel_rfl) (by kernel_rfl) ?_;generalize wz1.drew=wd at hx ho hp2 ⊢
     clear hp;have hb9d:b9<wd.heap.size:=blk_lt hp2;have cp:=blk1 hp2;have cb:=blk3 (Aa hx hBd);refine blkStep (fun K HK=>?_);simp only [PK]
     go_wp2_with fail
     refine HK.out _ _ ?_;clear HK K;clear cp cb;refine oneStep (fun K HK=>?_);simp only [PK]
     go_wp2_with fail
     refine(s_MakePart d _ 4 0 _ (rd.ext (hx0.t hx)) (by omega)).mono ?_;rintro e w1 ⟨u,rfl,ou,h1⟩
     go_wp2_with fail
     refine HK.out _ _ h1 ?_;clear HK K;have hml:=makePart_len d 4 0
     obtain⟨X,hX⟩:∃ X,X=makePart d 4 0:=⟨_,rfl⟩
     rw [← hX] at ou hml ⊢
     clear hX;obtain⟨oo,co,rfl,_⟩:=(Bb (hf:=Ao) ou).shape;refine oneStep (fun K HK=>?_);simp only [PK]
     go_wp2_with fail
     refine HK.out _ _ ((Ab _).alloc _) ?_;clear HK K;have hLl:=hL.1;refine badStep (by kernel_rfl) (fun K HK=>?_);simp only [PK];refine appN (lo:=b9+1) (w0:=wd) (c:=Part.c) (hc:=Part.clen) (sub:=(·.hops)) (I:=Own.flat Hop.f 5 Ao 103) E rfl _ _ rfl X (.slice oo X.hops.length co) (rng wd.heap.size w1.heap.size) (part_oneC _ _ _ _) rfl ho (h1.alloc _) (Aj (O:=Own.flat Hop.f 5 Ao 103) (Own.ofF (hf:=Ao) ou) ((Ab _).alloc _)) (fun q hq=>⟨hq.1,by have h2:=hq.2;simp;omega⟩) hb9d rfl (by exact Au (Part.c X (.slice oo X.hops.length co)) (blk_new w1 _)) (by omega) (by unfold maxLen;omega) ?_;intro v' w' ho' hg' hvlo;have hpB:=Aa (h1.alloc (.cells #[.int .i64 X.kind,.int .i64 X.ts,.int .i64 X.beta,.slice oo X.hops.length co] 99)) hp2;have hp3:=(hg'.block b9 (blk_lt hpB) (fun e=>by have:=hvlo _ e.symm;omega)).trans hpB;have hx':=((hx.trans h1).alloc (.cells #[.int .i64 X.kind,.int .i64 X.ts,.int .i64 X.beta,.slice oo X.hops.length co] 99)).grown hg' (fun q hq=>by have:=hvlo q hq;have h8:=HB9.out;omega);clear hg' hvlo hpB hp2 ho ou hx
     go_wp2_with fail
     refine HK.out _ _ ?_;clear HK K;have e1:(L ++ [X]).length=L.length+1:=by simp
     obtain⟨oN,cN,rfl⟩:∃ oN cN,v'=.slice oN (L.length+1) cN:=by obtain⟨o',c',h,_⟩:=(Bs ho').shape;exact⟨o',c',by rw [h,e1]⟩
     have HE1:=Ac e1;clear e1;refine blkStep (fun K HK=>?_);simp only [PK]
     go_wp2_with fail
     refine HK.out _ _ ?_;clear HK K;obtain⟨wq,hwq,hbq,hcq⟩:=one_set hp3 0 (.slice oN (L.length+1) cN);simp only [List.setIfInBounds_toArray,List.set_cons_zero] at hbq;have HQ:=Ac (⟨hbq,Bg (Own.kept _ ho' hcq (fun b hb e=>by have h2:=hb.1;have h3:b=b9:=e;omega)) (Ae _),hL.snoc (by omega),hx'.chg hcq (fun i hi=>by have h3:i=b9:=hi;have h8:=HB9.out;omega)⟩:wq.heap[b9]?=some (.cells #[.slice oN (L.length+1) cN] 30 (0,0))∧Part.own.own (rng (b9+1) wq.heap.size) wq (.slice oN (L.length+1) cN) (L ++ [X])∧PBd 3 (L ++ [X])∧Ext W4 wq);have HWQ:=Ac hwq;have cp:=blk1 hp3;have fp:=fr_of hp3 0;clear hwq hbq hcq hx' ho' hp3;refine badStep (by kernel_rfl) (fun K HK=>?_);simp only [PK]
     go_wp2_with fail
     refine HK.out _ _ ?_;clear HK K cp fp;refine Ap (by kernel_rfl) ?_;rw [← HWQ.out]
     go_wp2_with fail
     go_meet
     exact⟨oN,cN,L ++ [X],by rw [HE1.out];exact HQ.out⟩
    go_wp2_with fail
    go_meet
    exact⟨o,c,L,hp,ho,hL.mono (Nat.le_succ _),hx⟩
   case rest=>
    clear hp ho hL hx;obtain⟨o,c,L,hp,ho,hL,hx⟩:=hcut
    obtain⟨wz2,hwz⟩:∃ wz:World,wz=wc:=⟨_,rfl⟩
    subst hwz;have hbr:=Aa hx hBr;obtain⟨wq,hwq,hbq,hcq⟩:=one_set hbr 0 (.slice o L.length c);simp only [List.setIfInBounds_toArray,List.set_cons_zero] at hbq;have HQ:=Ac (⟨Bg (Cd (Own.kept _ ho hcq (fun b hb e=>by have h2:=hb.1;have h3:b=w.heap.size+1+1+1:=e;have h8:=HB9.out;have h9:=HS4.out;omega)) (by omega:w.heap.size≤b9+1)) (Ae _),Ext.chg (hx0.t hx) hcq (fun i hi=>by have h3:i=w.heap.size+1+1+1:=hi;omega)⟩:Part.own.own (rng w.heap.size wq.heap.size) wq (.slice o L.length c) L∧Ext w wq);have HWQ:=Ac hwq;have HBQ:=Ac hbq;have cp:=blk1 hp;have cr:=blk1 hbr;have fr:=fr_of hbr 0;clear hwq hbq hcq hbr
    go_wp2_with fail
    rw [← HWQ.out];have cc:=blk1 HBQ.out;clear cp cr fr;refine bodyPost_ret (by simp [results,Tryz.results172,go_sem,cc] <;> rfl) rfl ?_;exact⟨_,L,rfl,hL,HQ.out.1,HQ.out.2⟩
def PthsBd (n:Nat) (l:List Pth):Prop:=l.length≤n∧∀ x∈l,PBd 3 x.parts
theorem PthsBd.mono {n m:Nat} {l:List Pth} (h:PthsBd n l) (hm:n≤m):PthsBd m l:=⟨Ad h.1 hm,h.2⟩
theorem PthsBd.app {n m k:Nat} {l l':List Pth} (h:PthsBd n l) (h':PthsBd m l') (hk:n+m≤k):PthsBd k (l ++ l'):=
 ⟨by have := h.1; have := h'.1; simp; omega, fun y hy => by
  rcases List.mem_append.1 hy with h1 | h1
  ·
   exact h.2 y h1
  exact h'.2 y h1⟩
theorem PthsBd.one {p:List Part} (h:PBd 3 p):PthsBd 1 [(⟨p⟩:Pth)]:=⟨Ae _,fun y hy=>by obtain rfl:=List.mem_singleton.1 hy;exact h⟩
theorem pth_oneJ (x:Pth) (o:Option Addr) (n c:Nat):∀ u∈Pth.c x (.slice o n c),u.oneCell'=true:=by
 intro u hu;simp only [Pth.c,List.mem_cons,List.not_mem_nil,or_false] at hu;rw [hu];rfl
structure LP (W : World) (K : Nat → Prop) (n : Nat) (out : Value) (L : List Pth) (wr : World) : Prop where
 bd:PthsBd n L
 own:∃ S,Pth.ownS.own S wr out L∧∀ q,S q→W.heap.size≤q∧q<wr.heap.size∧¬ K q
 kin:∀ q,K q→q<wr.heap.size
 x:Ext W wr
section
variable {W w0 w w' : World} {K : Nat → Prop} {n m : Nat} {out v' vs : Value} {L src : List Pth}
theorem LP.ext (h:LP W K n out L w0) (e:Ext w0 w):LP W K n out L w:=by
 obtain⟨h1,⟨S,h2,h3⟩,h4,h5⟩:=h;exact⟨h1,⟨S,Aj h2 e,fun q hq=>⟨(h3 q hq).1,Ak (h3 q hq).2.1 e.size,(h3 q hq).2.2⟩⟩,fun q hq=>Ak (h4 q hq) e.size,h5.trans e⟩
theorem LP.mono (h:LP W K n out L w0) (hm:n≤m):LP W K m out L w0:=⟨h.bd.mono hm,h.own,h.kin,h.x⟩
theorem LP.keepNew {K':Nat→Prop} (h:LP W K n out L w0) (e:Ext w0 w) (hK:∀ q,K' q→K q∨(w0.heap.size≤q∧q<w.heap.size)):LP W K' n out L w:=by
 obtain⟨h1,⟨S,h2,h3⟩,h4,h5⟩:=h;refine⟨h1,⟨S,Aj h2 e,fun q hq=>⟨(h3 q hq).1,Ak (h3 q hq).2.1 e.size,fun hk=>?_⟩⟩,fun q hq=>?_,h5.trans e⟩
 ·
  rcases hK q hk with h6 | h6
  ·
   exact(h3 q hq).2.2 h6
  have:=(h3 q hq).2.1;omega
 rcases hK q hq with h6 | h6
 ·
  exact Ak (h4 q h6) e.size
 exact h6.2
theorem LP.grown {S S2:Nat→Prop} (h:LP W K n out L w0) (hS:∀ q,S q→W.heap.size≤q∧q<w0.heap.size∧¬ K q) (e:Ext w0 w) (hg:w.grownBy w' out.ownBlock) (hvS:∀ q,out.ownBlock=some q→S q)
  {L':List Pth} (ho:Pth.ownS.own S2 w' v' L') (h2:∀ q,S2 q→S q∨(w0.heap.size≤q∧q<w'.heap.size)) (hb:PthsBd m L'):LP W K m v' L' w'∧Chg (fun q=>¬ K q) w0 w':=by
 have hz:=e.size;have hz':=hg.size;refine⟨⟨hb,⟨S2,ho,fun q hq=>?_⟩,fun q hq=>Ak (h.kin q hq) (Ad hz hz'),(h.x.trans e).grown hg (fun q hq=>(hS q (hvS q hq)).1)⟩,(Ar e).trans (Bn hg (fun q hq=>(hS q (hvS q hq)).2.2))⟩
 rcases h2 q hq with h3 | h3
 ·
  exact⟨(hS q h3).1,by have:=(hS q h3).2.1;omega,(hS q h3).2.2⟩
 exact⟨Ad h.x.size h3.1,h3.2,fun hk=>by have:=h.kin q hk;omega⟩
theorem LP.rd (h:LP W K n out L w0):RdS Pth.rep w0 out L:=by
 obtain⟨S,h2,_⟩:=h.own;exact Pth.ord h2
theorem LP.fin {w9:World} (h:LP W K n out L w0) (hw:w9.heap.size≤W.heap.size):Pth.ownS.own (rng w9.heap.size w0.heap.size) w0 out L:=by
 obtain⟨S,h2,h3⟩:=h.own;exact Own.mono _ h2 (fun q hq=>⟨Ad hw (h3 q hq).1,(h3 q hq).2.1⟩)
theorem keepK {α:Type} {r:Rep α} {v:Value} {l:List α} (h:(Own.keep r).own K w0 v l) (c:Chg (fun q=>¬ K q) w0 w'):(Own.keep r).own K w' v l:=Own.kept _ h c (fun _ hb e=>e hb)
end
theorem pths_none (w:World):LP w (fun _=>False) 0 (.slice (some ⟨w.heap.size,0,none⟩) 0 0) [] (w.alloc (.cells #[] 30)):=by
 have h:=nest_lit (n:=1) (c:=Pth.c) (hc:=Pth.clen) (sub:=fun x:Pth=>x.parts) (e:=30) (I:=Part.own) (w:=w) [] w.heap.size (Ae _) (by simp) (by simp) (fun i j hi=>absurd hi (by simp));have h':Pth.ownS.own (rng w.heap.size (w.heap.size+1)) (w.alloc (.cells #[] 30)) (.slice (some ⟨w.heap.size,0,none⟩) 0 0) []:=by unfold Pth.ownS;simpa using h
 exact⟨⟨Ae _,by simp⟩,⟨_,h',fun q hq=>⟨hq.1,by have:=hq.2;simp;omega,id⟩⟩,fun q hq=>hq.elim,(Ab _).alloc _⟩
theorem s_l23Cores (C:List Seg) (v1 vc:Value) (a b:Seg) (va vb:Value) (r9 q9:Int) (w:World) (rc:RdS Seg.rep w vc C) (ra:RdS Hop.rep w va a.hops) (rb:RdS Hop.rep w vb b.hops) (hC:SegsBd 20 C) (ha:a.hops.length≤6) (hb:b.hops.length≤6) :
  Calls Tryz.prog 129 #[.agg #[v1,vc],.agg #[.int .i64 a.ts,.int .i64 a.beta,va],.int .i64 r9,.int .i64 q9,.agg #[.int .i64 b.ts,.int .i64 b.beta,vb]] w fun e w'=>∃ (v':Value) (L:List Pth),e=.returned v'∧PthsBd 40 L∧Pth.ownS.own (rng w.heap.size w'.heap.size) w' v' L∧Ext w w':=by
 obtain⟨E⟩:=elemPth;obtain⟨o_c,c_c,rfl,_⟩:=rc.shape;obtain⟨o_a,c_a,rfl,_⟩:=ra.shape;obtain⟨o_b,c_b,rfl,_⟩:=rb.shape;obtain⟨hx0,HB0⟩:=ea3 w (.cells #[v1,.slice o_c C.length c_c] 108) (.cells #[.int .i64 a.ts,.int .i64 a.beta,.slice o_a a.hops.length c_a] 116) (.cells #[.int .i64 b.ts,.int .i64 b.beta,.slice o_b b.hops.length c_b] 116);replace HB0:=Ac HB0
 obtain⟨W3,hW3⟩:∃ W3:World,W3=(((w.alloc (.cells #[v1,.slice o_c C.length c_c] 108)).alloc (.cells #[.int .i64 a.ts,.int .i64 a.beta,.slice o_a a.hops.length c_a] 116)).alloc (.cells #[.int .i64 b.ts,.int .i64 b.beta,.slice o_b b.hops.length c_b] 116)):=⟨_,rfl⟩
 have hs3:w.heap.size≤W3.heap.size:=by rw [hW3];exact hx0.size
 have hx:=hx0;rw [← hW3] at hx HB0;clear hx0
 go_enter Tryz.func129,Tryz.ntmps129
 go_upto_region 1 with (fail)
 rw [← hW3];clear hW3;have hlp:=pths_none W3;have cb0:=blk2 (Aa hlp.x HB0.out.1);have cb1:=blk3 (Aa hlp.x HB0.out.2.1);have cb2:=blk3 (Aa hlp.x HB0.out.2.2)
 go_wp2_with fail
 clear cb0 cb1 cb2;refine(s_l16Between C _ v1 r9 q9 20 _ (rc.ext (hx.trans hlp.x)) hC (by omega)).mono ?_;rintro e w_l ⟨vl,l,rfl,hl,Rl,hz_l⟩;obtain⟨o_l,c_l,rfl,_⟩:=(Seg.ord Rl).shape;have hll:=hl.1
 obtain⟨K_l,hK_l⟩:∃ K:Nat→Prop,K=rng (W3.alloc (.cells #[] 30)).heap.size w_l.heap.size:=⟨_,rfl⟩
 have k_l:(Own.keep Seg.rep).own K_l w_l (.slice o_l l.length c_l) l:=by rw [hK_l];exact Be Rl
 have lp_l:=hlp.keepNew (K':=K_l) hz_l (fun q hq=>by rw [hK_l] at hq;exact .inr hq);clear Rl hz_l hK_l hlp;have cb0:=blk2 (Aa lp_l.x HB0.out.1);have cb1:=blk3 (Aa lp_l.x HB0.out.2.1);have cb2:=blk3 (Aa lp_l.x HB0.out.2.2)
 go_wp2_with fail
 clear cb0;clear cb1;clear cb2
 go_loopg [11,13] l.length (fun gk out i wr=>∃ (k:Nat) (L:List Pth),gk+k=l.length∧i=.int .i64 k∧LP W3 K_l (0+k) out L wr∧(Own.keep Seg.rep).own K_l wr (.slice o_l l.length c_l) l)
 case atStart=>exact⟨0,_,by omega,rfl,lp_l,k_l⟩
 case round=>
  clear lp_l k_l;obtain⟨k,L,hgk,rfl,lp_l,k_l⟩:=hrel;obtain⟨oq9,cq9,rfl,_⟩:=lp_l.rd.shape;have HGK:=Ac hgk;clear hgk;have hkl:k≤l.length:=by have h1:=HGK.out;omega
  by_cases hlt:k<l.length
  ·
   obtain⟨b0,off,oh,ch,rfl,hc,hr⟩:=Seg.at (Own.rd _ k_l) k hlt;have hx6:=hl.at k hlt
   obtain⟨x,hx9⟩:∃ x,x=l[k]:=⟨_,rfl⟩
   rw [← hx9] at hc hr hx6;clear hx9;have cb0:=blk2 (Aa lp_l.x HB0.out.1);have cb1:=blk3 (Aa lp_l.x HB0.out.2.1);have cb2:=blk3 (Aa lp_l.x HB0.out.2.2)
   go_upto_region 6 with (fail)
   clear cb0 cb1 cb2;refine Ax (.blk [0,1,2,3,4,5,6] (.one 7 (.one 8 (.one 9 (.blk [10] .done))))) [9] (by kernel_rfl) (by kernel_rfl) ?_;have hd0:Ext wr wr.drew:=(Ab _).drew;generalize wr.drew=wd at hd0 ⊢
   have lq:=lp_l.ext hd0;have hcd:=Ci hd0 hc;have cb0:=blk2 (Aa lq.x HB0.out.1);have cb1:=blk3 (Aa lq.x HB0.out.2.1);have cb2:=blk3 (Aa lq.x HB0.out.2.2);refine blkStep (fun K HK=>?_);simp only [PK]
   go_wp2_with fail
   refine HK.out _ _ ?_;clear HK K;clear cb0 cb1 cb2 hcd hc;refine oneStep (fun K HK=>?_);simp only [PK]
   go_wp2_with fail
   refine(s_JoinThree a x b _ _ _ false _ (ra.ext (hx.trans lq.x)) (hr.ext hd0) (rb.ext (hx.trans lq.x)) ha hx6 hb).mono ?_;rintro e w1 ⟨u,l3,rfl,h3,ou,h1⟩
   go_wp2_with fail
   refine HK.out _ _ h1 ?_;clear HK K;obtain⟨oo,co,rfl,_⟩:=(Bs ou).shape;refine oneStep (fun K HK=>?_);simp only [PK]
   go_wp2_with fail
   refine HK.out _ _ ((Ab _).alloc _) ?_;clear HK K;have hLl:=lq.bd.1;obtain⟨S,hoS,hS⟩:=lq.own;refine badStep (by kernel_rfl) (fun K HK=>?_);simp only [PK];refine appG (w0:=wd) (c:=Pth.c) (hc:=Pth.clen) (sub:=(·.parts)) (I:=Part.own) (S:=S) E rfl _ _ rfl (⟨l3⟩:Pth) (.slice oo l3.length co) (rng wd.heap.size w1.heap.size) (pth_oneJ _ _ _ _) rfl hoS (h1.alloc _) (Aj ou ((Ab _).alloc _)) (fun q hq=>⟨hq.1,by have h2:=hq.2;simp;omega⟩) rfl (by exact Au (Pth.c ⟨l3⟩ (.slice oo l3.length co)) (blk_new w1 _)) (by omega) (by unfold maxLen;omega) ?_;intro v' w' ho' hg' hvS;obtain⟨ln,hcg⟩:=lq.grown hS (h1.alloc _) hg' hvS ho' (fun q hq=>hq) (lq.bd.app (m:=1) (PthsBd.one h3) (Ae _));have kn:=keepK (Aj k_l hd0) hcg;clear hcg hg' hvS ho' hoS hS lq lp_l k_l ou
   go_wp2_with fail
   refine HK.out _ _ ?_;clear HK K;refine blkStep (fun K HK=>?_);simp only [PK]
   go_wp2_with fail
   refine HK.out _ _ ?_;clear HK K;refine Ap (by kernel_rfl) ?_
   go_wp2_with fail
   go_roundg (gk - 1)
   case measure=>have h1:=HGK.out;omega
   case rel=>exact⟨k+1,_,by have h1:=HGK.out;omega,congrArg (Value.int .i64) (by first | omega | (unfold wrap64;omega)),ln,kn⟩
  have cb0:=blk2 (Aa lp_l.x HB0.out.1);have cb1:=blk3 (Aa lp_l.x HB0.out.2.1);have cb2:=blk3 (Aa lp_l.x HB0.out.2.2)
  go_wp2_with fail
  clear cb0 cb1 cb2;refine(s_l16Between C _ v1 q9 r9 20 _ (rc.ext (hx.trans lp_l.x)) hC (by omega)).mono ?_;rintro e w_m ⟨vm,m,rfl,hm,Rm,hz_m⟩;obtain⟨o_m,c_m,rfl,_⟩:=(Seg.ord Rm).shape;have hml:=hm.1
  obtain⟨K_m,hK_m⟩:∃ K:Nat→Prop,K=rng wr.heap.size w_m.heap.size:=⟨_,rfl⟩
  have k_m:(Own.keep Seg.rep).own K_m w_m (.slice o_m m.length c_m) m:=by rw [hK_m];exact Be Rm
  have lp_m:=lp_l.keepNew (K':=K_m) hz_m (fun q hq=>by rw [hK_m] at hq;exact .inr hq);clear Rm hz_m hK_m lp_l
  obtain⟨kk,hkk⟩:∃ kk,kk=k:=⟨_,rfl⟩
  rw [← hkk] at lp_m;have hk20:kk≤20:=by omega
  clear hkk;have cb0:=blk2 (Aa lp_m.x HB0.out.1);have cb1:=blk3 (Aa lp_m.x HB0.out.2.1);have cb2:=blk3 (Aa lp_m.x HB0.out.2.2)
  go_wp2_with fail
  clear cb0;clear cb1;clear cb2
  go_loopg [11,14] m.length (fun gk out i wr=>∃ (k:Nat) (L:List Pth),gk+k=m.length∧i=.int .i64 k∧LP W3 K_m (0+kk+k) out L wr∧(Own.keep Seg.rep).own K_m wr (.slice o_m m.length c_m) m)
  case atStart=>exact⟨0,_,by omega,rfl,lp_m,k_m⟩
  case round=>
   clear lp_m k_m;obtain⟨k,L,hgk,rfl,lp_m,k_m⟩:=hrel;obtain⟨oq9,cq9,rfl,_⟩:=lp_m.rd.shape;have HGK:=Ac hgk;clear hgk;have hkl:k≤m.length:=by have h1:=HGK.out;omega
   by_cases hlt:k<m.length
   ·
    obtain⟨b0,off,oh,ch,rfl,hc,hr⟩:=Seg.at (Own.rd _ k_m) k hlt;have hx6:=hm.at k hlt
    obtain⟨x,hx9⟩:∃ x,x=m[k]:=⟨_,rfl⟩
    rw [← hx9] at hc hr hx6;clear hx9;have cb0:=blk2 (Aa lp_m.x HB0.out.1);have cb1:=blk3 (Aa lp_m.x HB0.out.2.1);have cb2:=blk3 (Aa lp_m.x HB0.out.2.2)
    go_upto_region 11 with (fail)
    clear cb0 cb1 cb2;refine Ax (.blk [0,1,2,3,4,5,6] (.one 7 (.one 8 (.one 9 (.blk [10] .done))))) [9] (by kernel_rfl) (by kernel_rfl) ?_;have hd0:Ext wr wr.drew:=(Ab _).drew;generalize wr.drew=wd at hd0 ⊢
    have lq:=lp_m.ext hd0;have hcd:=Ci hd0 hc;have cb0:=blk2 (Aa lq.x HB0.out.1);have cb1:=blk3 (Aa lq.x HB0.out.2.1);have cb2:=blk3 (Aa lq.x HB0.out.2.2);refine blkStep (fun K HK=>?_);simp only [PK]
    go_wp2_with fail
    refine HK.out _ _ ?_;clear HK K;clear cb0 cb1 cb2 hcd hc;refine oneStep (fun K HK=>?_);simp only [PK]
    go_wp2_with fail
    refine(s_JoinThree a x b _ _ _ true _ (ra.ext (hx.trans lq.x)) (hr.ext hd0) (rb.ext (hx.trans lq.x)) ha hx6 hb).mono ?_;rintro e w1 ⟨u,l3,rfl,h3,ou,h1⟩
    go_wp2_with fail
    refine HK.out _ _ h1 ?_;clear HK K;obtain⟨oo,co,rfl,_⟩:=(Bs ou).shape;refine oneStep (fun K HK=>?_);simp only [PK]
    go_wp2_with fail
    refine HK.out _ _ ((Ab _).alloc _) ?_;clear HK K;have hLl:=lq.bd.1;obtain⟨S,hoS,hS⟩:=lq.own;refine badStep (by kernel_rfl) (fun K HK=>?_);simp only [PK];refine appG (w0:=wd) (c:=Pth.c) (hc:=Pth.clen) (sub:=(·.parts)) (I:=Part.own) (S:=S) E rfl _ _ rfl (⟨l3⟩:Pth) (.slice oo l3.length co) (rng wd.heap.size w1.heap.size) (pth_oneJ _ _ _ _) rfl hoS (h1.alloc _) (Aj ou ((Ab _).alloc _)) (fun q hq=>⟨hq.1,by have h2:=hq.2;simp;omega⟩) rfl (by exact Au (Pth.c ⟨l3⟩ (.slice oo l3.length co)) (blk_new w1 _)) (by omega) (by unfold maxLen;omega) ?_;intro v' w' ho' hg' hvS;obtain⟨ln,hcg⟩:=lq.grown hS (h1.alloc _) hg' hvS ho' (fun q hq=>hq) (lq.bd.app (m:=1) (PthsBd.one h3) (Ae _));have kn:=keepK (Aj k_m hd0) hcg;clear hcg hg' hvS ho' hoS hS lq lp_m k_m ou
    go_wp2_with fail
    refine HK.out _ _ ?_;clear HK K;refine blkStep (fun K HK=>?_);simp only [PK]
    go_wp2_with fail
    refine HK.out _ _ ?_;clear HK K;refine Ap (by kernel_rfl) ?_
    go_wp2_with fail
    go_roundg (gk - 1)
    case measure=>have h1:=HGK.out;omega
    case rel=>exact⟨k+1,_,by have h1:=HGK.out;omega,congrArg (Value.int .i64) (by first | omega | (unfold wrap64;omega)),ln,kn⟩
   have cb0:=blk2 (Aa lp_m.x HB0.out.1);have cb1:=blk3 (Aa lp_m.x HB0.out.2.1);have cb2:=blk3 (Aa lp_m.x HB0.out.2.2)
   go_wp2_with fail
   go_ret
   exact⟨_,L,rfl,lp_m.bd.mono (by omega),lp_m.fin hs3,hx.trans lp_m.x⟩
end
end Go.Proofs.YteodlcpeoaggbaaGreat
