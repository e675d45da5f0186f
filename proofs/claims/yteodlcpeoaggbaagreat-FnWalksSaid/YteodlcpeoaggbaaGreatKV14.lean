/- What these laws need: FnOld, FnWalks: Draws of topologies: few ASes, links that are right and share no end. -/
import Derived.Test.YteodlcpeoaggbaaGreatKV10
namespace Go.Proofs.YteodlcpeoaggbaaGreat
section
open Go.ChangeShapes Go.WideShapes Go.ChangeAt Go.RowKit Go.Deep
set_option maxRecDepth 100000
set_option maxHeartbeats 40000000
theorem elemLnk:Nonempty (Elem Tryz.prog 25 127 5 40):=Elem.mk' Tryz.underlying25 Tryz.infoLnk rfl (by decide)
theorem elemASd:Nonempty (Elem Tryz.prog 24 129 3 24):=Elem.mk' Tryz.underlying24 Tryz.infoASd rfl (by decide)
theorem OwnF.apart {α β:Type} {n m:Nat} {f:α→List Value} {f':β→List Value} {base base':Nat} {e e':TypeId} {w:World} {v v':Value} {l:List α} {l':List β} (h:OwnF f n base e w v l) (h':OwnF f' m base' e' w v' l') (hne:e≠e') {k:Nat} (hk:v.ownBlock=some k):v'.ownBlock≠some k:=by
 rcases h.2 with ⟨rfl,_⟩ | ⟨g',cap,cur,rfl,_,hh,_⟩
 ·
  simp [Value.ownBlock] at hk
 obtain rfl:g'=k:=by simpa [Value.ownBlock] using hk
 exact h'.ne hh (fun e=>hne e.symm)
theorem s_l5Add (bt base:Nat) (l:List Lnk) (v1 v2:Value) (a b kind:Int) (w:World) (hb:w.heap[bt]?=some (.cells #[v1,v2] 27 (0,0))) (ho:OwnF Lnk.f 5 base 127 w v2 l) (hbase:base≤w.heap.size) (hl:l.length≤1000) :
  Calls Tryz.prog 131 #[.pointer (some ⟨bt,0,none⟩),.int .i64 a,.int .i64 b,.int .i64 kind] w fun e w'=>∃ v':Value,e=.returned (.tuple #[])∧w'.heap[bt]?=some (.cells #[v1,v'] 27 (0,0))∧OwnF Lnk.f 5 base 127 w' v' (addLink l a b kind)∧Chg (fun k=>k=bt∨v2.ownBlock=some k) w w':=by
 obtain⟨E⟩:=elemLnk;have htl:=topoIfs_len l;have HB:=Ac hb;have HO:=Ac ho;have cf:=blk2 HB.out;clear hb ho
 go_enter Tryz.func131,Tryz.ntmps131
 go_wp2_with fail
 refine(s_Interfaces ⟨[],l⟩ v1 v2 a _ (Bb (hf:=Lnk.flen) HO.out) (by simp only;omega)).mono ?_;rintro e w1 ⟨va,rfl,hoa,hz1⟩;have ha:=htl a;simp only at hoa;obtain⟨oa,ca,rfl,hsa⟩:=(Bo hoa).shape;clear cf;have cf:=blk2 (hz1.block HB.out)
 go_wp2_with fail
 refine(s_Interfaces ⟨[],l⟩ v1 v2 b _ (Bb (hf:=Lnk.flen) (HO.out.ext hz1)) (by simp only;omega)).mono ?_;rintro e w2 ⟨vb,rfl,hob,hz2⟩;have hb:=htl b;simp only at hob;obtain⟨ob,cb,rfl,hsb⟩:=(Bo hob).shape;clear hoa hob cf htl hsa hsb;have hz:=hz1.trans hz2;have cf:=blk2 (hz.block HB.out)
 by_cases h6:(topoIfs l a).length+1≤6∧(topoIfs l b).length+1≤6
 ·
  have hadd:addLink l a b kind=l ++ [⟨a,(topoIfs l a).length+1,b,(topoIfs l b).length+1,kind⟩]:=by unfold addLink;rw [if_pos h6]
  have HAD:=Ac hadd;clear hadd;obtain⟨h6a,h6b⟩:=h6
  go_wp2_with (at_builtin;refine app1 E Lnk.flen Lnk.one rfl _ _ rfl (⟨a,(topoIfs l a).length+1,b,(topoIfs l b).length+1,kind⟩:Lnk) rfl (Ay HO.out (hz.alloc _)) rfl (by exact Au (Lnk.f ⟨a,(topoIfs l a).length+1,b,(topoIfs l b).length+1,kind⟩) (blk_new w2 _)) (by omega) (by unfold maxLen;omega) (Ad hbase (hz.alloc _).size) ?_)
  intro v' w' ho' hg';have HG:=Ac hg';have HBK:=Ac (own_ne (Ay HO.out (hz.alloc _)) ((hz.alloc _).block HB.out) (by decide) hg');clear hg' cf;have HOW:=Ac ho';obtain⟨o',c',rfl⟩:∃ o' c',v'=.slice o' (l.length+1) c':=by obtain⟨o',c',h,_⟩:=(Bb (hf:=Lnk.flen) ho').shape;exact⟨o',c',by simpa using h⟩
  clear ho';have cf:=blk2 HBK.out;have ff:=fr_of HBK.out 1
  go_wp2_with fail
  refine bodyPost_end (results_none rfl _ _ _) rfl ?_;have ho':=HOW.out;refine⟨_,rfl,by simpa using blk_set HBK.out 1 _,?_,?_⟩
  ·
   rw [HAD.out];exact ho'.chg (S:=fun k=>k=bt) (Bw (S:=fun k=>k=bt) (p:=⟨bt,1,none⟩) (Bq _ _) rfl _) (fun k hk e=>absurd (by rw [e] at hk;exact hk) (ho'.ne HBK.out (by decide)))
  exact Bw (S:=fun k=>k=bt∨v2.ownBlock=some k) (p:=⟨bt,1,none⟩) ((Ar (hz.alloc _)).trans (Bn HG.out (fun k hk=>.inr hk))) (.inl rfl) _
 have hadd:addLink l a b kind=l:=by unfold addLink;rw [if_neg h6]
 have HAD:=Ac hadd;clear hadd;have hcs:6<(topoIfs l a).length+1∨(topoIfs l a).length+1≤6∧6<(topoIfs l b).length+1:=by omega
 clear h6
 rcases hcs with h6 | ⟨h6,h7⟩
 ·
  go_wp2_with fail
  refine bodyPost_end (results_none rfl _ _ _) rfl ?_
  first | exact⟨v2,rfl,hz.block HB.out,by rw [HAD.out];exact HO.out.ext hz,Ar hz⟩ | exact⟨rfl,v2,hz.block HB.out,by rw [HAD.out];exact HO.out.ext hz,Ar hz⟩
 go_wp2_with fail
 refine bodyPost_end (results_none rfl _ _ _) rfl ?_
 first | exact⟨v2,rfl,hz.block HB.out,by rw [HAD.out];exact HO.out.ext hz,Ar hz⟩ | exact⟨rfl,v2,hz.block HB.out,by rw [HAD.out];exact HO.out.ext hz,Ar hz⟩
theorem s_l5LinkOk (t:Topo) (v1 v2:Value) (x:Lnk) (w:World) (ha:RdS ASd.rep w v1 t.ases) :
  Calls Tryz.prog 132 #[.agg #[v1,v2],.agg #[.int .i64 x.a,.int .i64 x.ai,.int .i64 x.b,.int .i64 x.bi,.int .i64 x.kind]] w fun e w'=>e=.returned (.bool (lnkOk t x))∧Ext w w':=by
 obtain⟨o,cap,rfl,hsm⟩:=ha.shape;obtain⟨hx0,HB0⟩:=ea2 w (.cells #[.slice o t.ases.length cap,v2] 27) (.cells #[.int .i64 x.a,.int .i64 x.ai,.int .i64 x.b,.int .i64 x.bi,.int .i64 x.kind] 127);replace HB0:=Ac HB0
 go_enter Tryz.func132,Tryz.ntmps132
 cases c1:isAs t x.a
 ·
  have cf1:=blk2 HB0.out.1;have cf2:=blk5 HB0.out.2
  go_wp2_with fail
  refine(s_l5Realm t _ v2 x.a _ (ha.ext hx0)).mono ?_;rintro e w1 ⟨rfl,hz1⟩;have HE:=Ac (show lnkOk t x=false by simp [lnkOk,c1])
  try clear cf1
  try clear cf2
  have cf3:=blk2 (Aa hz1 HB0.out.1);have cf4:=blk5 (Aa hz1 HB0.out.2)
  go_wp2_with fail
  go_ret
  exact⟨Ah HE.out.symm,(hx0.t hz1)⟩
 have cf5:=blk2 HB0.out.1;have cf6:=blk5 HB0.out.2
 go_wp2_with fail
 refine(s_l5Realm t _ v2 x.a _ (ha.ext hx0)).mono ?_;rintro e w2 ⟨rfl,hz2⟩
 cases c2:isAs t x.b
 ·
  try clear cf5
  try clear cf6
  have cf7:=blk2 (Aa hz2 HB0.out.1);have cf8:=blk5 (Aa hz2 HB0.out.2)
  go_wp2_with fail
  refine(s_l5Realm t _ v2 x.b _ (ha.ext (hx0.t hz2))).mono ?_;rintro e w3 ⟨rfl,hz3⟩;have HE:=Ac (show lnkOk t x=false by simp [lnkOk,c1,c2])
  try clear cf7
  try clear cf8
  have cf9:=blk2 (Aa (hz2.t hz3) HB0.out.1);have cf10:=blk5 (Aa (hz2.t hz3) HB0.out.2)
  go_wp2_with fail
  go_ret
  exact⟨Ah HE.out.symm,((hx0.t hz2).t hz3)⟩
 try clear cf5
 try clear cf6
 have cf11:=blk2 (Aa hz2 HB0.out.1);have cf12:=blk5 (Aa hz2 HB0.out.2)
 go_wp2_with fail
 refine(s_l5Realm t _ v2 x.b _ (ha.ext (hx0.t hz2))).mono ?_;rintro e w4 ⟨rfl,hz4⟩
 by_cases c3:x.a<x.b
 ·
  have c3':decide (x.b≤x.a)=false:=by simp;omega
  cases c4:inR x.ai 1 6
  ·
   try clear cf11
   try clear cf12
   have cf13:=blk2 (Aa (hz2.t hz4) HB0.out.1);have cf14:=blk5 (Aa (hz2.t hz4) HB0.out.2)
   go_wp2_with fail
   refine(s_l1In _ _ _ _).mono ?_;rintro e _ ⟨rfl,rfl⟩;have HE:=Ac (show lnkOk t x=false by simp [lnkOk,c4])
   go_wp2_with fail
   go_ret
   exact⟨Ah HE.out.symm,((hx0.t hz2).t hz4)⟩
  try clear cf11
  try clear cf12
  have cf15:=blk2 (Aa (hz2.t hz4) HB0.out.1);have cf16:=blk5 (Aa (hz2.t hz4) HB0.out.2)
  go_wp2_with fail
  refine(s_l1In _ _ _ _).mono ?_;rintro e _ ⟨rfl,rfl⟩
  cases c5:inR x.bi 1 6
  ·
   go_wp2_with fail
   refine(s_l1In _ _ _ _).mono ?_;rintro e _ ⟨rfl,rfl⟩;have HE:=Ac (show lnkOk t x=false by simp [lnkOk,c5])
   go_wp2_with fail
   go_ret
   exact⟨Ah HE.out.symm,((hx0.t hz2).t hz4)⟩
  go_wp2_with fail
  refine(s_l1In _ _ _ _).mono ?_;rintro e _ ⟨rfl,rfl⟩;obtain⟨ha0,ha1⟩:=isAs_lt c1;obtain⟨hb0,hb1⟩:=isAs_lt c2;have HE:=Ac (show lnkOk t x=(if x.kind == 1 then t.ases[x.a.toNat].core && t.ases[x.b.toNat].core else if x.kind == 2 then (t.ases[x.a.toNat].isd == t.ases[x.b.toNat].isd) && !t.ases[x.b.toNat].core else (x.kind == 3) && !t.ases[x.a.toNat].core && !t.ases[x.b.toNat].core) by unfold lnkOk;rw [c1,c2,c4,c5,asAt_at ha0 ha1,asAt_at hb0 hb1];simp [c3]);clear c1 c2 c3 c3' c4;have ha2:x.a<t.ases.length:=by omega
  have hb2:x.b<t.ases.length:=by omega
  obtain⟨b,off,rfl,hca⟩:=ASd.at (ha.ext ((hx0.t hz2).t hz4)) x.a.toNat ha1;obtain⟨b',off',hbo,hcb⟩:=ASd.at (ha.ext ((hx0.t hz2).t hz4)) x.b.toNat hb1
  cases hbo
  generalize t.ases[x.a.toNat]=A at *;generalize t.ases[x.b.toNat]=B at *;obtain⟨p0,p1,p2⟩:=A;obtain⟨q0,q1,q2⟩:=B;dsimp only at *;obtain⟨hxA,HBA⟩:=ea1 w4 (.cells #[.int .i64 p0,.bool p1,.int .i64 p2] 129);replace HBA:=Ac HBA;have hcb2:=And.intro (hxA.cell hcb.1) (And.intro (hxA.cell hcb.2.1) (hxA.cell hcb.2.2));have cf17:=blk2 (Aa ((hz2.t hz4).t hxA) HB0.out.1);have cf18:=blk5 (Aa ((hz2.t hz4).t hxA) HB0.out.2);have cf19:=blk3 HBA.out;obtain⟨hxB,HBB⟩:=ea1 (w4.alloc (.cells #[.int .i64 p0,.bool p1,.int .i64 p2] 129)) (.cells #[.int .i64 q0,.bool q1,.int .i64 q2] 129);replace HBB:=Ac HBB;have cf20:=blk2 (Aa (((hz2.t hz4).t hxA).t hxB) HB0.out.1);have cf21:=blk5 (Aa (((hz2.t hz4).t hxA).t hxB) HB0.out.2);have cf22:=blk3 (Aa hxB HBA.out);have cf23:=blk3 HBB.out;have hcs:x.kind=1∨x.kind=2∨(x.kind≠1∧x.kind≠2):=by omega
  rcases hcs with k1 | k1 | ⟨k1,k2⟩
  ·
   cases p1 <;> cases q1
   all_goals
    go_wp2_with fail
    go_ret
    exact⟨Ah (by rw [HE.out];simp [k1]),((((hx0.t hz2).t hz4).t hxA).t hxB)⟩
  ·
   have k3:(x.kind == 1)=false:=by rw [k1];rfl
   cases hi:(p0 == q0) <;> cases p1 <;> cases q1
   all_goals
    go_wp2_with fail
    go_ret
    exact⟨Ah (by rw [HE.out];simp [k1,hi]),((((hx0.t hz2).t hz4).t hxA).t hxB)⟩
  have k3:(x.kind == 1)=false:=by rw [beq_eq_false_iff_ne];exact k1
  have k4:(x.kind == 2)=false:=by rw [beq_eq_false_iff_ne];exact k2
  cases k5:(x.kind == 3) <;> cases p1 <;> cases q1
  all_goals
   go_wp2_with fail
   go_ret
   exact⟨Ah (by rw [HE.out];simp [k1,k2,k5]),((((hx0.t hz2).t hz4).t hxA).t hxB)⟩
 have c3':decide (x.b≤x.a)=true:=by simp;omega
 have HE:=Ac (show lnkOk t x=false by simp [lnkOk,c3])
 try clear cf11
 try clear cf12
 have cf24:=blk2 (Aa (hz2.t hz4) HB0.out.1);have cf25:=blk5 (Aa (hz2.t hz4) HB0.out.2)
 go_wp2_with fail
 go_ret
 exact⟨Ah HE.out.symm,((hx0.t hz2).t hz4)⟩
theorem chg_own {α:Type} {n:Nat} {f:α→List Value} {base:Nat} {e:TypeId} {w w':World} {v:Value} {l:List α} (_:OwnF f n base e w v l) (hg:w.grownBy w' v.ownBlock):Chg (fun k=>v.ownBlock=some k) w w':=Bn hg (fun _ h=>h)
structure TopSt (g : Nat) (cv : Value) (cd : List Int) (w : World) (b0 bt : Nat) (v1 v2 : Value) (al : List ASd) (l : List Lnk) (wr : World) : Prop where
 z:wr.heap[b0]?=some (.cells #[.slice none 0 0,.slice none 0 0] 27 (0,0))
 t:wr.heap[bt]?=some (.cells #[v1,v2] 27 (0,0))
 a:OwnF ASd.f 3 w.heap.size 129 wr v1 al
 k:OwnF Lnk.f 5 w.heap.size 127 wr v2 l
 c:Cur g cv cd wr
 x:Chg (at1 g) w wr
 c0:Cur g cv cd w
 h0:w.heap.size≤b0
 h1:b0<bt
namespace TopSt
variable {g : Nat} {cv : Value} {cd : List Int} {w : World} {b0 bt : Nat} {v1 v2 : Value} {al : List ASd} {l : List Lnk} {wr : World}
theorem draw (s:TopSt g cv cd w b0 bt v1 v2 al l wr) {w':World} (hc:Cur g cv cd w') (hx:Chg (at1 g) wr w'):TopSt g cv cd w b0 bt v1 v2 al l w':=
 have e1:=s.c0.lt;have e2:=s.h0;have e3:=s.h1
 ⟨hx.blkS s.z (by unfold at1;omega),hx.blkS s.t (by unfold at1;omega),s.a.at1 hx e1,s.k.at1 hx e1,hc,s.x.trans hx,s.c0,e2,e3⟩
theorem ext (s:TopSt g cv cd w b0 bt v1 v2 al l wr) {w':World} (hx:Ext wr w'):TopSt g cv cd w b0 bt v1 v2 al l w':=s.draw (s.c.ext hx) (Ar hx)
theorem base (s:TopSt g cv cd w b0 bt v1 v2 al l wr):w.heap.size≤wr.heap.size:=s.x.size
theorem chg (s:TopSt g cv cd w b0 bt v1 v2 al l wr) {S:Nat→Prop} {w':World} {v1' v2':Value} {al':List ASd} {l':List Lnk} (hx:Chg S wr w') (hS:∀ k,S k→w.heap.size≤k∧k≠b0)
  (ht:w'.heap[bt]?=some (.cells #[v1',v2'] 27 (0,0))) (ha:OwnF ASd.f 3 w.heap.size 129 w' v1' al') (hk:OwnF Lnk.f 5 w.heap.size 127 w' v2' l'):TopSt g cv cd w b0 bt v1' v2' al' l' w':=by
 have hup:=Chg.up s.x hx (fun i hi=>.inr (hS i hi).1);exact⟨hx.blkS s.z (fun h=>(hS _ h).2 rfl),ht,ha,hk,Cur.kept s.c0 s.c hx (fun h=>by have h2:=(hS _ h).1;have h3:=s.c0.lt;omega) hup,hup,s.c0,s.h0,s.h1⟩
theorem add (s:TopSt g cv cd w b0 bt v1 v2 al l wr) {w':World} {v2':Value} {l':List Lnk} (ht:w'.heap[bt]?=some (.cells #[v1,v2'] 27 (0,0))) (hk:OwnF Lnk.f 5 w.heap.size 127 w' v2' l')
  (hx:Chg (fun k=>k=bt∨v2.ownBlock=some k) wr w'):TopSt g cv cd w b0 bt v1 v2' al l' w':=by
 have e2:=s.h0;have e3:=s.h1;refine s.chg hx (fun k hk=>?_) ht (s.a.chg hx (fun k hk=>?_)) hk
 ·
  rcases hk with rfl | hk
  ·
   omega
  exact⟨(s.k.block k hk).1,fun e=>s.k.ne s.z (by decide) (by rw [hk,e])⟩
 rintro (rfl | h)
 ·
  exact s.a.ne s.t (by decide) hk
 exact OwnF.apart s.a s.k (by decide) hk h
theorem put0 (s:TopSt g cv cd w b0 bt v1 v2 al l wr) {w':World} {v1':Value} {al':List ASd} (ha:OwnF ASd.f 3 w.heap.size 129 w' v1' al') (hg:wr.grownBy w' v1.ownBlock) :
  TopSt g cv cd w b0 bt v1' v2 al' l (w'.setCell ⟨bt,0,none⟩ v1'):=by
 have e2:=s.h0;have e3:=s.h1;have hb:=own_ne s.a s.t (by decide) hg;have hset:Chg (fun k=>k=bt) w' (w'.setCell ⟨bt,0,none⟩ v1'):=Bw (S:=fun k=>k=bt) (p:=⟨bt,0,none⟩) (Bq _ _) rfl v1';have hk':=s.k.keptT s.a (by decide) hg;refine s.chg (S:=fun k=>k=bt∨v1.ownBlock=some k) ((Bn hg (fun k h=>.inr h)).trans (hset.mono (fun k h=>.inl h))) (fun k hk=>?_) (by simpa using blk_set hb 0 v1') (ha.chg hset (fun k hk e=>ha.ne hb (by decide) (by rw [hk,e]))) (hk'.chg hset (fun k hk e=>hk'.ne hb (by decide) (by rw [hk,e])))
 rcases hk with rfl | hk
 ·
  omega
 exact⟨(s.a.block k hk).1,fun e=>s.a.ne s.z (by decide) (by rw [hk,e])⟩
theorem put1 (s:TopSt g cv cd w b0 bt v1 v2 al l wr) {v2':Value} {l':List Lnk} (hk:OwnF Lnk.f 5 w.heap.size 127 wr v2' l') :
  TopSt g cv cd w b0 bt v1 v2' al l' (wr.setCell ⟨bt,1,none⟩ v2'):=by
 have e2:=s.h0;have e3:=s.h1;have hset:Chg (fun k=>k=bt) wr (wr.setCell ⟨bt,1,none⟩ v2'):=Bw (S:=fun k=>k=bt) (p:=⟨bt,1,none⟩) (Bq _ _) rfl v2';refine s.chg hset (fun k hk=>by have h1:k=bt:=hk;omega) (by simpa using blk_set s.t 1 v2') (s.a.chg hset (fun k hk e=>s.a.ne s.t (by decide) (by rw [hk,e]))) (hk.chg hset (fun k hk' e=>hk.ne s.t (by decide) (by rw [hk',e])))
theorem isd {ga cap:Nat} {m:Nat} (s:TopSt g cv cd w b0 bt (.slice (some ⟨ga,0,none⟩) m cap) v2 al l wr) (k:Nat) (hk:k<al.length) (n:Int) :
  TopSt g cv cd w b0 bt (.slice (some ⟨ga,0,none⟩) m cap) v2 (al.set k { al[k] with isd:=n }) l (wr.setCell ⟨ga,k * 3,none⟩ (.int .i64 n)):=by
 obtain⟨h1,h2⟩:=OwnF.put1 ASd.flen s.a k hk 0 (by decide) (.int .i64 n) { al[k] with isd:=n } rfl;have hS:Chg (fun b=>b=ga) wr (wr.setCell ⟨ga,k * 3,none⟩ (.int .i64 n)):=Bw (S:=fun b=>b=ga) (p:=⟨ga,k * 3,none⟩) (Bq _ _) rfl _;refine s.chg hS (fun b hb=>?_) (hS.blkS s.t (fun e=>s.a.ne s.t (by decide) (by rw [e];rfl))) h1 (s.k.chg hS (fun b hb e=>OwnF.apart s.k s.a (by decide) hb (by rw [e];rfl)));have hb':b=ga:=hb;subst hb';exact⟨(s.a.block b rfl).1,fun e=>s.a.ne s.z (by decide) (by rw [e];rfl)⟩
theorem grow (s:TopSt g cv cd w b0 bt v1 v2 al l wr) {m:Nat} {out:Value} {lo:List Lnk} {wq w':World} (ho:OwnF Lnk.f 5 m 127 wq out lo) (hm:bt<m) (hv:∀ k,v2.ownBlock=some k→k<m) (ha:∀ k,v1.ownBlock=some k→k<m) (hg:wr.grownBy w' out.ownBlock):TopSt g cv cd w b0 bt v1 v2 al l w':=by
 have e2:=s.h0;have e3:=s.h1;have hS:Chg (fun k=>out.ownBlock=some k) wr w':=Bn hg (fun _ h=>h);have hm':∀ k,out.ownBlock=some k→m≤k:=fun k hk=>(ho.block k hk).1
 refine s.chg hS (fun k hk=>by have:=hm' k hk;omega) (hS.blkS s.t (fun h=>by have:=hm' _ h;omega)) (s.a.chg hS (fun k hk h=>by have:=hm' _ h;have:=ha _ hk;omega)) (s.k.chg hS (fun k hk h=>by have:=hm' _ h;have:=hv _ hk;omega))
theorem fin (s:TopSt g cv cd w b0 bt v1 v2 al l wr) :
  ∃ w5,w5=(wr.setCell ⟨b0,0,none⟩ v1).setCell ⟨b0,1,none⟩ v2∧w5.heap[b0]?=some (.cells #[v1,v2] 27 (0,0))∧OwnF ASd.f 3 w.heap.size 129 w5 v1 al∧OwnF Lnk.f 5 w.heap.size 127 w5 v2 l∧Cur g cv cd w5∧Chg (at1 g) w w5:=by
 have e2:=s.h0;have e1:=s.c0.lt;have hS:Chg (fun k=>k=b0) wr ((wr.setCell ⟨b0,0,none⟩ v1).setCell ⟨b0,1,none⟩ v2):=Bw (S:=fun k=>k=b0) (p:=⟨b0,1,none⟩) (Bw (S:=fun k=>k=b0) (p:=⟨b0,0,none⟩) (Bq _ _) rfl v1) rfl v2;have hup:=Chg.up s.x hS (fun i hi=>by have h1:i=b0:=hi;omega);exact⟨_,rfl,by simpa using blk_set (blk_set s.z 0 v1) 1 v2,s.a.chg hS (fun k hk e=>s.a.ne s.z (by decide) (by rw [hk,e])),s.k.chg hS (fun k hk e=>s.k.ne s.z (by decide) (by rw [hk,e])),Cur.kept s.c0 s.c hS (fun h=>by have h2:g=b0:=h;omega) hup,hup⟩
end TopSt
theorem s_l5Draw (g:Nat)  (cv:Value) (cd:List Int) (w:World) (hc:Cur g cv cd w) :
  Calls Tryz.prog 81 #[.pointer (some ⟨g,0,none⟩)] w fun e w'=>∃ (v1 v2:Value) (t:Topo),e=.returned (.agg #[v1,v2])∧TopoOk t∧OwnF ASd.f 3 w.heap.size 129 w' v1 t.ases∧OwnF Lnk.f 5 w.heap.size 127 w' v2 t.links∧Cur g cv cd w'∧Chg (at1 g) w w':=by
 obtain⟨EA⟩:=elemASd;obtain⟨EL⟩:=elemLnk;have hgw:=hc.lt
 go_enter Tryz.func81,Tryz.ntmps81
 go_wp2_with fail
 have s:TopSt g cv cd w w.heap.size (w.heap.size+1) (.slice none 0 0) (.slice none 0 0) [] [] ((w.alloc (.cells #[.slice none 0 0,.slice none 0 0] 27)).alloc (.cells #[.slice none 0 0,.slice none 0 0] 27)):=⟨(al2 w _ _).1,(al2 w _ _).2,OwnF.nil _ _ _ _ _,OwnF.nil _ _ _ _ _,hc.ext (ext2 w _ _),Ar (ext2 w _ _),hc,Ae _,Nat.lt_succ_self _⟩
 refine(s_l1Below g (3) _ _ _ s.c).mono ?_;rintro e w1 ⟨xc,rfl,hxc0,hxc1,hcq,hzq⟩;replace s:=s.draw hcq hzq;clear hcq hzq;obtain⟨c,rfl⟩:=Int.eq_ofNat_of_zero_le hxc0;have hxc2:c≤2:=by omega
 clear hxc0 hxc1
 go_wp2_with fail
 refine(s_l1Below g (6) _ _ _ s.c).mono ?_;rintro e w2 ⟨xd,rfl,hxd0,hxd1,hcq,hzq⟩;replace s:=s.draw hcq hzq;clear hcq hzq;obtain⟨d,rfl⟩:=Int.eq_ofNat_of_zero_le hxd0;have hxd2:d≤5:=by omega
 clear hxd0 hxd1
 go_wp2_with fail
 obtain⟨N,hN,hN2⟩:∃ N:Nat,N≤1+c+d∧1+c+d≤N:=⟨_,Ae _,Ae _⟩
 go_loopg [6] N (fun gk i wr=>∃ (k:Nat) (v1:Value) (al:List ASd),gk+k=N∧i=.int .i64 k∧al.length=k∧TopSt g cv cd w w.heap.size (w.heap.size+1) v1 (.slice none 0 0) al [] wr)
 case atStart=>exact⟨0,_,[],rfl,rfl,rfl,s⟩
 case round=>
  clear s;obtain⟨k,v1,al,hgk,rfl,hal,s⟩:=hrel;have HGK:=Ac hgk;have HAL:=Ac hal;clear hgk hal;have hkN:k≤N:=by have h1:=HGK.out;omega
  by_cases hk:(k:Int)<1+c+d
  ·
   have cf:=blk2 s.t
   go_upto_region 7 with (fail)
   clear cf;replace s:=s.ext ((Ab _).drew);refine Ax (.blk [0,2,4,5,6,7,11] (.two 1 3 (.one 3 (.one 8 (.blk [9,10,12,13] (.one 14 (.one 15 (.blk [16] (.one 17 .done))))))) (.two 1 8 (.one 8 (.blk [9,10,12,13] (.one 14 (.one 15 (.blk [16] (.one 17 .done)))))) (.blk [1,9,10,12,13] (.one 14 (.one 15 (.blk [16] (.one 17 .done)))))))) [3,8,15,17] (by kernel_rfl) (by kernel_rfl) ?_;refine blkStep (fun K HK=>?_);simp only [PK]
   go_wp2_with fail
   refine HK.out _ _ ?_;clear HK K;refine twoStep ?_ ?_
   ·
    have cfl:=blk2 s.t;refine oneStep (fun K HK=>?_);simp only [PK]
    go_wp2_with fail
    refine HK.out _ _ (Ab _) ?_;clear HK K cfl;refine badStep (by kernel_rfl) (fun K HK=>?_);simp only [PK]
    go_wp2_with fail
    refine(s_l1Below g (2) _ _ _ s.c).mono ?_;rintro e w3 ⟨xa,rfl,hxa0,hxa1,hcq,hzq⟩;replace s:=s.draw hcq hzq;clear hcq hzq;have hxa2:xa<2:=by omega
    clear hxa1
    go_wp2_with fail
    refine HK.out _ _ ?_;clear HK K;refine badStep (by kernel_rfl) (fun K HK=>?_);simp only [PK]
    go_wp2_with fail
    refine(s_l1Below g (1000000) _ _ _ s.c).mono ?_;rintro e w4 ⟨xb,rfl,hxb0,hxb1,hcq,hzq⟩;replace s:=s.draw hcq hzq;clear hcq hzq;have hxb2:xb<1000000:=by omega
    clear hxb1
    go_wp2_with fail
    refine HK.out _ _ ?_;clear HK K;refine blkStep (fun K HK=>?_);simp only [PK]
    go_wp2_with fail
    refine HK.out _ _ ?_;clear HK K;refine oneStep (fun K HK=>?_);simp only [PK]
    go_wp2_with fail
    refine HK.out _ _ ((Ab _).alloc _) ?_;clear HK K;refine badStep (by kernel_rfl) (fun K HK=>?_);simp only [PK];have hal:=HAL.out;refine app1 EA ASd.flen ASd.one rfl _ _ rfl (⟨xa,decide ((k:Int)<1+c),1+xb * 8+k⟩:ASd) rfl (Ay s.a ((Ab _).alloc _)) rfl (by exact Au (ASd.f (⟨xa,decide ((k:Int)<1+c),1+xb * 8+k⟩:ASd)) (blk_new _ _)) (by omega) (by unfold maxLen;omega) (by have h1:=s.base;simp;omega) ?_;intro v' w' ho' hg';replace s:=s.ext ((Ab _).alloc (.cells #[.int .i64 xa,.bool (decide ((k:Int)<1+c)),.int .i64 (1+xb * 8+k)] 129))
    go_wp2_with fail
    refine HK.out _ _ ?_;clear HK K;refine blkStep (fun K HK=>?_);simp only [PK]
    go_wp2_with fail
    refine HK.out _ _ ?_;clear HK K;have cf:=blk2 (own_ne s.a s.t (by decide) hg');have ff:=fr_of (own_ne s.a s.t (by decide) hg') 0;replace s:=s.put0 ho' hg';obtain⟨o',c',rfl⟩:∃ o' c',v'=.slice o' (al.length+1) c':=by obtain⟨o',c',h,_⟩:=(Bb (hf:=ASd.flen) ho').shape;exact⟨o',c',by simpa using h⟩
    clear ho' hg' hal;refine badStep (by kernel_rfl) (fun K HK=>?_);simp only [PK]
    go_wp2_with fail
    refine HK.out _ _ ?_;clear HK K cf ff;refine Ap (by kernel_rfl) ?_
    go_wp2_with fail
    go_roundg (gk - 1)
    case measure=>have h1:=HGK.out;omega
    case rel=>exact⟨k+1,_,_,by have h1:=HGK.out;omega,congrArg (Value.int .i64) (by have h1:=HGK.out;first | omega | (unfold wrap64;omega)),by simp [HAL.out],s⟩
   refine badStep (by kernel_rfl) (fun K HK=>?_);simp only [PK]
   go_wp2_with fail
   refine(s_l1Below g (2) _ _ _ s.c).mono ?_;rintro e w5 ⟨xa,rfl,hxa0,hxa1,hcq,hzq⟩;replace s:=s.draw hcq hzq;clear hcq hzq;have hxa2:xa<2:=by omega
   clear hxa1
   go_wp2_with fail
   refine HK.out _ _ ?_;clear HK K;refine twoStep ?_ ?_
   ·
    have cfl:=blk2 s.t;refine oneStep (fun K HK=>?_);simp only [PK]
    go_wp2_with fail
    refine HK.out _ _ (Ab _) ?_;clear HK K cfl;refine badStep (by kernel_rfl) (fun K HK=>?_);simp only [PK]
    go_wp2_with fail
    refine(s_l1Below g (1000000) _ _ _ s.c).mono ?_;rintro e w6 ⟨xb,rfl,hxb0,hxb1,hcq,hzq⟩;replace s:=s.draw hcq hzq;clear hcq hzq;have hxb2:xb<1000000:=by omega
    clear hxb1
    go_wp2_with fail
    refine HK.out _ _ ?_;clear HK K;refine blkStep (fun K HK=>?_);simp only [PK]
    go_wp2_with fail
    refine HK.out _ _ ?_;clear HK K;refine oneStep (fun K HK=>?_);simp only [PK]
    go_wp2_with fail
    refine HK.out _ _ ((Ab _).alloc _) ?_;clear HK K;refine badStep (by kernel_rfl) (fun K HK=>?_);simp only [PK];have hal:=HAL.out;refine app1 EA ASd.flen ASd.one rfl _ _ rfl (⟨xa,decide ((k:Int)<1+c),1+xb * 8+k⟩:ASd) rfl (Ay s.a ((Ab _).alloc _)) rfl (by exact Au (ASd.f (⟨xa,decide ((k:Int)<1+c),1+xb * 8+k⟩:ASd)) (blk_new _ _)) (by omega) (by unfold maxLen;omega) (by have h1:=s.base;simp;omega) ?_;intro v' w' ho' hg';replace s:=s.ext ((Ab _).alloc (.cells #[.int .i64 xa,.bool (decide ((k:Int)<1+c)),.int .i64 (1+xb * 8+k)] 129))
    go_wp2_with fail
    refine HK.out _ _ ?_;clear HK K;refine blkStep (fun K HK=>?_);simp only [PK]
    go_wp2_with fail
    refine HK.out _ _ ?_;clear HK K;have cf:=blk2 (own_ne s.a s.t (by decide) hg');have ff:=fr_of (own_ne s.a s.t (by decide) hg') 0;replace s:=s.put0 ho' hg';obtain⟨o',c',rfl⟩:∃ o' c',v'=.slice o' (al.length+1) c':=by obtain⟨o',c',h,_⟩:=(Bb (hf:=ASd.flen) ho').shape;exact⟨o',c',by simpa using h⟩
    clear ho' hg' hal;refine badStep (by kernel_rfl) (fun K HK=>?_);simp only [PK]
    go_wp2_with fail
    refine HK.out _ _ ?_;clear HK K cf ff;refine Ap (by kernel_rfl) ?_
    go_wp2_with fail
    go_roundg (gk - 1)
    case measure=>have h1:=HGK.out;omega
    case rel=>exact⟨k+1,_,_,by have h1:=HGK.out;omega,congrArg (Value.int .i64) (by have h1:=HGK.out;first | omega | (unfold wrap64;omega)),by simp [HAL.out],s⟩
   refine badStep (by kernel_rfl) (fun K HK=>?_);simp only [PK]
   go_wp2_with fail
   refine(s_l1Below g (1000000) _ _ _ s.c).mono ?_;rintro e w7 ⟨xb,rfl,hxb0,hxb1,hcq,hzq⟩;replace s:=s.draw hcq hzq;clear hcq hzq;have hxb2:xb<1000000:=by omega
   clear hxb1
   go_wp2_with fail
   refine HK.out _ _ ?_;clear HK K;have cfl:=blk2 s.t;refine blkStep (fun K HK=>?_);simp only [PK]
   go_wp2_with fail
   refine HK.out _ _ ?_;clear HK K;clear cfl;refine oneStep (fun K HK=>?_);simp only [PK]
   go_wp2_with fail
   refine HK.out _ _ ((Ab _).alloc _) ?_;clear HK K;refine badStep (by kernel_rfl) (fun K HK=>?_);simp only [PK];have hal:=HAL.out;refine app1 EA ASd.flen ASd.one rfl _ _ rfl (⟨xa,decide ((k:Int)<1+c),1+xb * 8+k⟩:ASd) rfl (Ay s.a ((Ab _).alloc _)) rfl (by exact Au (ASd.f (⟨xa,decide ((k:Int)<1+c),1+xb * 8+k⟩:ASd)) (blk_new _ _)) (by omega) (by unfold maxLen;omega) (by have h1:=s.base;simp;omega) ?_;intro v' w' ho' hg';replace s:=s.ext ((Ab _).alloc (.cells #[.int .i64 xa,.bool (decide ((k:Int)<1+c)),.int .i64 (1+xb * 8+k)] 129))
   go_wp2_with fail
   refine HK.out _ _ ?_;clear HK K;refine blkStep (fun K HK=>?_);simp only [PK]
   go_wp2_with fail
   refine HK.out _ _ ?_;clear HK K;have cf:=blk2 (own_ne s.a s.t (by decide) hg');have ff:=fr_of (own_ne s.a s.t (by decide) hg') 0;replace s:=s.put0 ho' hg';obtain⟨o',c',rfl⟩:∃ o' c',v'=.slice o' (al.length+1) c':=by obtain⟨o',c',h,_⟩:=(Bb (hf:=ASd.flen) ho').shape;exact⟨o',c',by simpa using h⟩
   clear ho' hg' hal;refine badStep (by kernel_rfl) (fun K HK=>?_);simp only [PK]
   go_wp2_with fail
   refine HK.out _ _ ?_;clear HK K cf ff;refine Ap (by kernel_rfl) ?_
   go_wp2_with fail
   go_roundg (gk - 1)
   case measure=>have h1:=HGK.out;omega
   case rel=>exact⟨k+1,_,_,by have h1:=HGK.out;omega,congrArg (Value.int .i64) (by have h1:=HGK.out;first | omega | (unfold wrap64;omega)),by simp [HAL.out],s⟩
  have hal:al.length=N:=by have h1:=HAL.out;omega
  have h1N:1≤N:=by omega
  have h8N:N≤8:=by omega
  obtain⟨ga,cap,rfl,_,_⟩:=s.a.some_shape (by omega);rw [hal] at s
  go_wp2_with fail
  clear hk hkN HGK HAL
  go_loopg [7] c (fun gk i wr=>∃ (k:Nat) (v2:Value) (l:List Lnk),gk+k=1+c∧i=.int .i64 k∧1≤k∧Hid (Laid l)∧l.length≤2 * k∧TopSt g cv cd w w.heap.size (w.heap.size+1) (.slice (some ⟨ga,0,none⟩) N cap) v2 al l wr)
  case atStart=>exact⟨1,_,[],by omega,rfl,Ae _,Ac Laid.nil,by simp,s⟩
  case round=>
   clear s;obtain⟨k,v2,l,hgk,rfl,hk1,HL,hll,s⟩:=hrel;have HGK:=Ac hgk;clear hgk;have hkN:k≤1+c:=by have h1:=HGK.out;omega
   by_cases hk:(k:Int)<1+c
   ·
    go_wp2_with fail
    refine(s_l1Below g ((k:Int)) _ _ _ s.c).mono ?_;rintro e w8 ⟨xa,rfl,hxa0,hxa1,hcq,hzq⟩;replace s:=s.draw hcq hzq;clear hcq hzq;have hxa2:xa<k:=by omega
    clear hxa1
    go_wp2_with fail
    refine(s_l5Add (w.heap.size+1) w.heap.size l (.slice (some ⟨ga,0,none⟩) N cap) v2 xa k 1 _ s.t s.k s.base (by omega)).mono ?_;rintro e w9 ⟨vb,rfl,htq,hkq,hxq⟩;replace s:=s.add htq hkq hxq;clear htq hkq hxq;have hLlb:=HL.out.add (a:=xa) (b:=k) 1 (by omega);have hnlb:=addLink_len l xa k 1;generalize addLink l xa k 1=lb at *
    go_wp2_with fail
    refine(s_l1Once g (2) _ _ _ s.c).mono ?_;rintro e w10 ⟨b,rfl,hcq,hzq⟩;replace s:=s.draw hcq hzq;clear hcq hzq
    cases b
    case false=>
     go_wp2_with fail
     go_roundg (gk - 1)
     case measure=>have h1:=HGK.out;omega
     case rel=>exact⟨k+1,_,_,by have h1:=HGK.out;omega,congrArg (Value.int .i64) (by have h1:=HGK.out;first | omega | (unfold wrap64;omega)),by omega,Ac hLlb,by omega,s⟩
    case true=>
     go_wp2_with fail
     refine(s_l1Below g ((k:Int)) _ _ _ s.c).mono ?_;rintro e w11 ⟨xb,rfl,hxb0,hxb1,hcq,hzq⟩;replace s:=s.draw hcq hzq;clear hcq hzq;have hxb2:xb<k:=by omega
     clear hxb1
     go_wp2_with fail
     refine(s_l5Add (w.heap.size+1) w.heap.size lb (.slice (some ⟨ga,0,none⟩) N cap) vb xb k 1 _ s.t s.k s.base (by omega)).mono ?_;rintro e w12 ⟨vc,rfl,htq,hkq,hxq⟩;replace s:=s.add htq hkq hxq;clear htq hkq hxq;have hLlc:=hLlb.add (a:=xb) (b:=k) 1 (by omega);have hnlc:=addLink_len lb xb k 1;generalize addLink lb xb k 1=lc at *
     go_wp2_with fail
     go_roundg (gk - 1)
     case measure=>have h1:=HGK.out;omega
     case rel=>exact⟨k+1,_,_,by have h1:=HGK.out;omega,congrArg (Value.int .i64) (by have h1:=HGK.out;first | omega | (unfold wrap64;omega)),by omega,Ac hLlc,by omega,s⟩
   go_wp2_with fail
   have hk2:k=1+c:=by omega
   subst hk2;clear hk hkN HGK hk1
   go_loopg [8] d (fun gk i wr=>∃ (k:Nat) (v2:Value) (l:List Lnk) (al:List ASd),gk+k=N∧i=.int .i64 k∧1+c≤k∧al.length=N∧Hid (Laid l)∧l.length≤8+3 * k∧TopSt g cv cd w w.heap.size (w.heap.size+1) (.slice (some ⟨ga,0,none⟩) N cap) v2 al l wr)
   case atStart=>exact⟨1+c,_,l,al,by omega,by simp,Ae _,hal,HL,by omega,s⟩
   case round=>
    clear s HL hll hal;obtain⟨k,v2,l,al,hgk,rfl,hk1,hal,HL,hll,s⟩:=hrel;have HGK:=Ac hgk;clear hgk;have hkN:k≤N:=by have h1:=HGK.out;omega
    have cf:=blk2 s.t
    by_cases hk:(k:Int)<N
    ·
     go_wp2_with fail
     clear cf;refine(s_l1Below g (2) _ _ _ s.c).mono ?_;rintro e w13 ⟨xe,rfl,hxe0,hxe1,hcq,hzq⟩;replace s:=s.draw hcq hzq;clear hcq hzq;obtain⟨q,rfl⟩:=Int.eq_ofNat_of_zero_le hxe0;have hxe2:q≤1:=by omega
     clear hxe0 hxe1
     go_wp2_with fail
     obtain⟨go,hgo⟩:∃ go:Nat,go=gk:=⟨_,rfl⟩
     subst hgo
     obtain⟨wo,hwo⟩:∃ wo:World,wo=wr:=⟨_,rfl⟩
     subst hwo
     go_loopg [9] (1+q) (fun gj i wi=>∃ (j:Nat) (v2:Value) (l:List Lnk) (al:List ASd),gj=j∧i=.int .i64 j∧j≤2∧al.length=N∧Hid (Laid l)∧l.length+j≤10+3 * k∧TopSt g cv cd w w.heap.size (w.heap.size+1) (.slice (some ⟨ga,0,none⟩) N cap) v2 al l wi)
     case atStart=>exact⟨1+q,_,l,al,rfl,congrArg (Value.int .i64) (by omega),by omega,hal,HL,by omega,s⟩
     case round=>
      clear s HL hll hal;obtain⟨j,v2,l,al,hgj,rfl,hj2,hal,HL,hll,s⟩:=hrel;have HGJ:=Ac hgj;clear hgj
      by_cases hj:(0:Int)<j
      ·
       go_wp2_with fail
       refine(s_l1Below g ((k:Int)) _ _ _ s.c).mono ?_;rintro e w14 ⟨xa,rfl,hxa0,hxa1,hcq,hzq⟩;replace s:=s.draw hcq hzq;clear hcq hzq;obtain⟨a,rfl⟩:=Int.eq_ofNat_of_zero_le hxa0;have hxa2:a<k:=by omega
       clear hxa0 hxa1
       go_wp2_with fail
       refine(s_l1Once g (5) _ _ _ s.c).mono ?_;rintro e w15 ⟨b,rfl,hcq,hzq⟩;replace s:=s.draw hcq hzq;clear hcq hzq
       cases b
       case false=>
        have cf:=blk2 s.t;have ca:=ASd.own_at s.a a (by omega);have ck:=ASd.own_at s.a k (by omega);have fk:=s.a.free (k * 3)
        go_upto_region 22 with (fail)
        clear cf ca ck fk;replace s:=s.ext ((Ab _).drew);refine Ax (.blk [0,1,2,3,4,5,6,7,8,9,10] (.one 11 .done)) [11] (by kernel_rfl) (by kernel_rfl) ?_;generalize w15.drew=wd at s ⊢
        have cf:=blk2 s.t;have ca:=ASd.own_at s.a a (by omega);have ck:=ASd.own_at s.a k (by omega);have fk:=s.a.free (k * 3);refine blkStep (fun K HK=>?_);simp only [PK]
        go_wp2_with fail
        refine HK.out _ _ ?_;clear HK K;refine badStep (by kernel_rfl) (fun K HK=>?_);simp only [PK]
        go_wp2_with fail
        refine HK.out _ _ ?_;clear HK K cf ca ck fk;replace s:=s.isd k (by omega) al[a].isd;refine Ap (by kernel_rfl) ?_;have hal2:(al.set k { al[k] with isd:=al[a].isd }).length=N:=by simpa using hal
        generalize wd.setCell ⟨ga,k * 3,none⟩ (.int .i64 al[a].isd)=wn at s ⊢
        revert hal2 s
        generalize al.set k { al[k] with isd:=al[a].isd }=al2;intro hal2 s;have cf:=blk2 s.t;have ca:=ASd.own_at s.a a (by omega);have ck:=ASd.own_at s.a k (by omega)
        cases hi:(al2[a].isd == al2[k].isd)
        ·
         go_upto_region 23 with (fail)
         clear cf ca ck;replace s:=s.ext ((Ab _).drew);refine Ax (.blk [0,1,2,3,4,5,6,7,8,9,10,11,12] .done) [] (by kernel_rfl) (by kernel_rfl) ?_;have cf:=blk2 s.t;have ca:=ASd.own_at s.a a (by omega);have ck:=ASd.own_at s.a k (by omega);refine blkStep (fun K HK=>?_);simp only [PK]
         go_wp2_with fail
         refine HK.out _ _ ?_;clear HK K;refine Ap (by kernel_rfl) ?_;clear cf ca ck hi
         go_wp2_with fail
         go_roundg (gk - 1)
         case measure=>have h1:=HGJ.out;omega
         case rel=>exact⟨j - 1,_,_,_,by have h1:=HGJ.out;omega,congrArg (Value.int .i64) (by have h1:=HGJ.out;first | omega | (unfold wrap64;omega)),by omega,hal2,HL,by omega,s⟩
        go_upto_region 23 with (fail)
        clear cf ca ck;replace s:=s.ext ((Ab _).drew);refine Ax (.blk [0,1,2,3,4,5,6,7,8,9,10,11,12] .done) [] (by kernel_rfl) (by kernel_rfl) ?_;have cf:=blk2 s.t;have ca:=ASd.own_at s.a a (by omega);have ck:=ASd.own_at s.a k (by omega);refine blkStep (fun K HK=>?_);simp only [PK]
        go_wp2_with fail
        refine HK.out _ _ ?_;clear HK K;refine Ap (by kernel_rfl) ?_;clear cf ca ck hi
        go_wp2_with fail
        refine(s_l5Add (w.heap.size+1) w.heap.size l (.slice (some ⟨ga,0,none⟩) N cap) v2 a k 2 _ s.t s.k s.base (by omega)).mono ?_;rintro e w16 ⟨vb,rfl,htq,hkq,hxq⟩;replace s:=s.add htq hkq hxq;clear htq hkq hxq;have hLlb:=HL.out.add (a:=a) (b:=k) 2 (by omega);have hnlb:=addLink_len l a k 2;generalize addLink l a k 2=lb at *
        go_wp2_with fail
        go_roundg (gk - 1)
        case measure=>have h1:=HGJ.out;omega
        case rel=>exact⟨j - 1,_,_,_,by have h1:=HGJ.out;omega,congrArg (Value.int .i64) (by have h1:=HGJ.out;first | omega | (unfold wrap64;omega)),by omega,hal2,Ac hLlb,by omega,s⟩
       case true=>
        have cf:=blk2 s.t;have ca:=ASd.own_at s.a a (by omega);have ck:=ASd.own_at s.a k (by omega)
        cases hi:(al[a].isd == al[k].isd)
        ·
         go_upto_region 23 with (fail)
         clear cf ca ck;replace s:=s.ext ((Ab _).drew);refine Ax (.blk [0,1,2,3,4,5,6,7,8,9,10,11,12] .done) [] (by kernel_rfl) (by kernel_rfl) ?_;have cf:=blk2 s.t;have ca:=ASd.own_at s.a a (by omega);have ck:=ASd.own_at s.a k (by omega);refine blkStep (fun K HK=>?_);simp only [PK]
         go_wp2_with fail
         refine HK.out _ _ ?_;clear HK K;refine Ap (by kernel_rfl) ?_;clear cf ca ck hi
         go_wp2_with fail
         go_roundg (gk - 1)
         case measure=>have h1:=HGJ.out;omega
         case rel=>exact⟨j - 1,_,_,_,by have h1:=HGJ.out;omega,congrArg (Value.int .i64) (by have h1:=HGJ.out;first | omega | (unfold wrap64;omega)),by omega,hal,HL,by omega,s⟩
        go_upto_region 23 with (fail)
        clear cf ca ck;replace s:=s.ext ((Ab _).drew);refine Ax (.blk [0,1,2,3,4,5,6,7,8,9,10,11,12] .done) [] (by kernel_rfl) (by kernel_rfl) ?_;have cf:=blk2 s.t;have ca:=ASd.own_at s.a a (by omega);have ck:=ASd.own_at s.a k (by omega);refine blkStep (fun K HK=>?_);simp only [PK]
        go_wp2_with fail
        refine HK.out _ _ ?_;clear HK K;refine Ap (by kernel_rfl) ?_;clear cf ca ck hi
        go_wp2_with fail
        refine(s_l5Add (w.heap.size+1) w.heap.size l (.slice (some ⟨ga,0,none⟩) N cap) v2 a k 2 _ s.t s.k s.base (by omega)).mono ?_;rintro e w17 ⟨vb,rfl,htq,hkq,hxq⟩;replace s:=s.add htq hkq hxq;clear htq hkq hxq;have hLlb:=HL.out.add (a:=a) (b:=k) 2 (by omega);have hnlb:=addLink_len l a k 2;generalize addLink l a k 2=lb at *
        go_wp2_with fail
        go_roundg (gk - 1)
        case measure=>have h1:=HGJ.out;omega
        case rel=>exact⟨j - 1,_,_,_,by have h1:=HGJ.out;omega,congrArg (Value.int .i64) (by have h1:=HGJ.out;first | omega | (unfold wrap64;omega)),by omega,hal,Ac hLlb,by omega,s⟩
      go_wp2_with fail
      have hj0:j=0:=by omega
      subst hj0;clear hj HGJ;have hb1:(k:Int) - (1+c)+1=((k - (1+c)+1:Nat):Int):=by omega
      refine(s_l1Below g ((k:Int) - (1+c)+1) _ _ _ s.c).mono ?_;rintro e w18 ⟨xf,rfl,hf0,hf1,hcq,hzq⟩;replace s:=s.draw hcq hzq;clear hcq hzq;obtain⟨r,rfl⟩:=Int.eq_ofNat_of_zero_le hf0;have hr:1+c+r≤k:=by omega
      clear hf0 hf1 hb1
      by_cases hrk:(1+c+r:Int)<k
      ·
       go_wp2_with fail
       refine(s_l1Once g (3) _ _ _ s.c).mono ?_;rintro e w19 ⟨b,rfl,hcq,hzq⟩;replace s:=s.draw hcq hzq;clear hcq hzq
       cases b
       case false=>
        go_wp2_with fail
        go_roundg (go - 1)
        case measure=>have h1:=HGK.out;omega
        case rel=>exact⟨k+1,_,_,_,by have h1:=HGK.out;omega,congrArg (Value.int .i64) (by have h1:=HGK.out;first | omega | (unfold wrap64;omega)),by omega,hal,HL,by omega,s⟩
       case true=>
        go_wp2_with fail
        refine(s_l5Add (w.heap.size+1) w.heap.size l (.slice (some ⟨ga,0,none⟩) N cap) v2 (1+c+r) k 3 _ s.t s.k s.base (by omega)).mono ?_;rintro e w20 ⟨vb,rfl,htq,hkq,hxq⟩;replace s:=s.add htq hkq hxq;clear htq hkq hxq;have hLlb:=HL.out.add (a:=(1+c+r)) (b:=k) 3 (by omega);have hnlb:=addLink_len l (1+c+r) k 3;generalize addLink l (1+c+r) k 3=lb at *
        go_wp2_with fail
        go_roundg (go - 1)
        case measure=>have h1:=HGK.out;omega
        case rel=>exact⟨k+1,_,_,_,by have h1:=HGK.out;omega,congrArg (Value.int .i64) (by have h1:=HGK.out;first | omega | (unfold wrap64;omega)),by omega,hal,Ac hLlb,by omega,s⟩
      go_wp2_with fail
      go_roundg (go - 1)
      case measure=>have h1:=HGK.out;omega
      case rel=>exact⟨k+1,_,_,_,by have h1:=HGK.out;omega,congrArg (Value.int .i64) (by have h1:=HGK.out;first | omega | (unfold wrap64;omega)),by omega,hal,HL,by omega,s⟩
    go_wp2_with fail
    replace hll:l.length≤40:=by omega
    clear hk hkN HGK hk1 cf
    obtain⟨wo,hwo⟩:∃ wo:World,wo=wr:=⟨_,rfl⟩
    subst hwo;have hv1:∀ b,((.slice (some ⟨ga,0,none⟩) N cap):Value).ownBlock=some b→b<wo.heap.size:=fun b hb=>(s.a.block b hb).2
    have hv2:∀ b,v2.ownBlock=some b→b<wo.heap.size:=fun b hb=>(s.k.block b hb).2
    have hbt:w.heap.size+1<wo.heap.size:=blk_lt s.t;have ho:=Bj Lnk.f 5 wo.heap.size 127 wo (Ae _);replace s:=s.ext ((Ab _).alloc (.cells #[] 127));obtain⟨o2,cap2,rfl,_⟩:=(Bb (hf:=Lnk.flen) s.k).shape
    go_loopg [12,13] l.length (fun gk out i wr=>∃ k:Nat,gk+k=l.length∧i=.int .i64 k∧OwnF Lnk.f 5 wo.heap.size 127 wr out ((l.take k).filter (lnkOk ⟨al,l⟩))∧wo.heap.size≤wr.heap.size∧TopSt g cv cd w w.heap.size (w.heap.size+1) (.slice (some ⟨ga,0,none⟩) N cap) (.slice o2 l.length cap2) al l wr)
    case atStart=>exact⟨0,by omega,rfl,by simpa using ho,by simp,s⟩
    case round=>
     clear s ho;obtain⟨k,hgk,rfl,ho,hws,s⟩:=hrel;have HGK:=Ac hgk;clear hgk;have hkl:k≤l.length:=by have h1:=HGK.out;omega
     have hln:((l.take k).filter (lnkOk ⟨al,l⟩)).length≤k:=Ad (List.length_filter_le _ _) (List.length_take_le _ _);have cf:=blk2 s.t
     by_cases hk:k<l.length
     ·
      obtain⟨bl,off,rfl,hcl⟩:=Lnk.at (Bb (hf:=Lnk.flen) s.k) k hk
      go_upto_region 32 with (fail)
      clear cf hcl;replace s:=s.ext ((Ab _).drew);replace ho:=ho.ext ((Ab wr).drew);replace hws:wo.heap.size≤wr.drew.heap.size:=Ad hws ((Ab wr).drew).size;refine Ax (.blk [0,1,2,3,4,5] (.one 6 .done)) [] (by kernel_rfl) (by kernel_rfl) ?_;generalize wr.drew=wd at s ho hws ⊢
      have cf:=blk2 s.t;obtain⟨bl',off',hbo,hcl⟩:=Lnk.at (Bb (hf:=Lnk.flen) s.k) k hk
      cases hbo
      refine blkStep (fun K HK=>?_);simp only [PK]
      go_wp2_with fail
      refine HK.out _ _ ?_;clear HK K;refine oneStep (fun K HK=>?_);simp only [PK]
      go_wp2_with fail
      refine(s_l5LinkOk ⟨al,l⟩ _ _ l[k] _ (Bb (hf:=ASd.flen) s.a)).mono ?_;rintro e wx ⟨rfl,hz⟩
      go_wp2_with fail
      refine HK.out _ _ hz ?_;clear HK K cf hcl;replace s:=s.ext hz;replace ho:=ho.ext hz;refine Ap (by kernel_rfl) ?_
      cases ht:lnkOk ⟨al,l⟩ l[k]
      ·
       go_wp2_with fail
       go_roundg (gk - 1)
       case measure=>have h1:=HGK.out;omega
       case rel=>exact⟨k+1,by have h1:=HGK.out;omega,congrArg (Value.int .i64) (by first | omega | (unfold wrap64;omega)),by rw [← filter_neg (α:=Lnk) (lnkOk ⟨al,l⟩) hk (by rw [ht];simp)];exact ho,Ad hws hz.size,s⟩
      have cf:=blk2 s.t;obtain⟨bl',off',hbo,hcl⟩:=Lnk.at (Bb (hf:=Lnk.flen) s.k) k hk
      cases hbo
      have hsz:=hz.size
      go_wp2_with (at_builtin;refine app1 EL Lnk.flen Lnk.one rfl _ _ rfl l[k] rfl (Ay ho ((Ab _).alloc _)) rfl (by exact Au (Lnk.f l[k]) (blk_new _ _)) (by omega) (by unfold maxLen;omega) (by simp;omega) ?_)
      intro v' w' ho' hg';have hsw:=hg'.size;simp only [nblk_alloc] at hsw;replace hsw:wx.heap.size≤w'.heap.size:=by omega
      replace s:=(s.ext ((Ab _).alloc _)).grow ho hbt hv2 hv1 hg';clear hg' cf hcl
      go_wp2_with fail
      go_roundg (gk - 1)
      case measure=>have h1:=HGK.out;omega
      case rel=>exact⟨k+1,by have h1:=HGK.out;omega,congrArg (Value.int .i64) (by first | omega | (unfold wrap64;omega)),by rw [← filter_pos (α:=Lnk) (lnkOk ⟨al,l⟩) hk ht];exact ho',Ad hws (Ad hz.size hsw),s⟩
     have hfl:(l.take k).filter (lnkOk ⟨al,l⟩)=l.filter (lnkOk ⟨al,l⟩):=by rw [List.take_of_length_le (by omega)]
     rw [hfl] at ho;have HFL:=Ac hfl;have hll2:=List.length_filter_le (lnkOk ⟨al,l⟩) l;clear hfl;generalize hq:l.filter (lnkOk ⟨al,l⟩)=lo at ho;have HQ:=Ac hq;clear hq;have ff:=fr_of s.t 1;obtain⟨o',c',rfl,hs'⟩:=(Bb (hf:=Lnk.flen) ho).shape
     go_upto_region 35 with (fail)
     clear cf ff;replace s:=s.put1 (ho.mono (by omega));generalize wr.setCell ⟨w.heap.size+1,1,none⟩ (.slice o' lo.length c')=wz at s ⊢
     have cf:=blk2 s.t;have cz:=blk2 s.z;have fz0:=fr2 s.z;obtain⟨w5,hw5,hb5,ha5,hk5,hc5,hx5⟩:=s.fin;have HW:=Ac hw5;have HB5:=Ac hb5;have HX5:=Ac hx5;clear hw5 hb5 hx5
     go_wp2_with fail
     rw [← HW.out];clear cf cz fz0;have cc:=blk2 HB5.out;refine bodyPost_ret (by simp [results,Tryz.results81,go_sem,cc];rfl) rfl ?_;exact⟨_,_,⟨al,lo⟩,rfl,by rw [← HQ.out];exact TopoOk.filter HL.out (by omega) (by omega) (by omega),ha5,hk5,hc5,HX5.out⟩
end
end Go.Proofs.YteodlcpeoaggbaaGreat
