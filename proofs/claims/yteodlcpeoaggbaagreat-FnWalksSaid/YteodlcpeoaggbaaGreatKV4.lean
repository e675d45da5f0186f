/- What these laws need: FnOld, FnWalks: Marking and holding parts and paths: the contracts of the laws' helper functions. Slices of uint8: how they read, and the contracts of the laws' helper functions over them. The data of packets, how they read, what they own, and the contracts of the laws' helper functions over them. Appending one element that holds a slice of its own to a row of the call's own. Contracts of copying hops, parts and paths, program and reference. Plain facts on the encoding of numbers: no program. A region that draws its order, walked along one schedule: what only reads is taken as soon as it may come up; a call, an allocation, an append comes up when it alone may. Worlds in which only a cursor's block was written: what reads the same in them, and regions that draw their order among calls that move the cursor. The cursor that the draws of the laws read: its contracts say no more than the bounds of what is drawn. Blocks of five cells written whole, and one cell of a block written. -/
import Derived.Deep.LoopGhost
import Derived.Laws.BitsAllLaws
import Derived.Laws.BitsLemmas
import Derived.OrdersHeld
import Derived.Deep.DeepCutAuto
import Derived.Test.YteodlcpeoaggbaaGreatKV3
namespace Go.Proofs.YteodlcpeoaggbaaGreat
section
open Go.ChangeShapes Go.WideShapes Go.ChangeAt Go.RowKit Go.Deep
set_option maxRecDepth 100000
set_option maxHeartbeats 4000000
section
variable {α β : Type} {n : Nat} {c : α → Value → List Value} {hc : ∀ a v, (c a v).length = n} {sub : α → List β} {e : TypeId} {I : Own β}
theorem nest_row {S:Nat→Prop} {w w2:World} {g m cap:Nat} {l:List α} (h:(Own.nest n c hc sub e I).own S w (.slice (some ⟨g,0,none⟩) m cap) l) (k:Nat) (hk:k<l.length) (x:α) (hsub:sub x=sub l[k]) (hg:w.grownBy w2 (some g))
  (hrow:∀ (qs:List (Cap α)) (_:qs.map (·.dat)=l) (hk':k<qs.length),OwnF (capF c) n 0 e w (.slice (some ⟨g,0,none⟩) m cap) qs→OwnF (capF c) n 0 e w2 (.slice (some ⟨g,0,none⟩) m cap) (qs.set k ⟨x,qs[k].val,qs[k].set⟩)) :
  (Own.nest n c hc sub e I).own S w2 (.slice (some ⟨g,0,none⟩) m cap) (l.set k x):=by
 obtain⟨qs,rfl,ho,hS,hq,hd⟩:=h;have hk':k<qs.length:=by simpa using hk
 have hch:Chg (fun b=>b=g) w w2:=Bn hg (fun k hk=>by cases hk;rfl);have hne:∀ b,(Value.slice (some ⟨g,0,none⟩) m cap).ownBlock≠some b→¬ b=g:=fun b h e=>h (by rw [e];rfl)
 refine⟨qs.set k ⟨x,qs[k].val,qs[k].set⟩,by simp [List.map_set],hrow qs rfl hk' ho,hS,fun q hqm=>?_,fun i j hi hj hne' b hbi=>?_⟩
 ·
  obtain⟨i,hi,rfl⟩:=List.getElem_of_mem hqm;have hi':i<qs.length:=by simpa using hi
  rw [List.getElem_set]
  by_cases hki:k=i
  ·
   subst hki;simp only [if_pos];obtain⟨a1,a2⟩:=hq qs[k] (List.getElem_mem _);refine⟨?_,fun b hb=>⟨(a2 b hb).1,(a2 b hb).2.1,Ak (a2 b hb).2.2 hch.size⟩⟩;have:=I.kept a1 hch (fun b hb=>hne b (a2 b hb).2.1);rw [hsub]
   simpa using this
  rw [if_neg hki];obtain⟨a1,a2⟩:=hq qs[i] (List.getElem_mem _);exact⟨I.kept a1 hch (fun b hb=>hne b (a2 b hb).2.1),fun b hb=>⟨(a2 b hb).1,(a2 b hb).2.1,Ak (a2 b hb).2.2 hch.size⟩⟩
 have hi':i<qs.length:=by simpa using hi
 have hj':j<qs.length:=by simpa using hj
 rw [List.getElem_set] at hbi ⊢
 have s1:qs[i].set b:=by
  by_cases e1:k=i
  ·
   subst e1;simpa using hbi
  rw [if_neg e1] at hbi;exact hbi
 have s2:=hd i j hi' hj' hne' b s1
 by_cases e2:k=j
 ·
  subst e2;simpa using s2
 rw [if_neg e2];exact s2
end
theorem Chg.blk {lo hi:Nat} {w w':World} (c:Chg (rng lo hi) w w') {b:Nat} {o:Obj} (h:w.heap[b]?=some o) (hb:b<lo∨hi≤b):w'.heap[b]?=some o:=
 (c.block b (blk_lt h) (fun hs=>by rcases hb with hb | hb <;> have:=hs.1 <;> have:=hs.2 <;> omega)).trans h
def byteF (n:Int):List Value:=[.int .u8 n]
theorem byteFlen (n:Int):(byteF n).length=1:=rfl
theorem byteOne (n:Int):∀ u∈byteF n,u.oneCell'=true:=by
 intro u hu;simp only [byteF,List.mem_cons,List.not_mem_nil,or_false] at hu;rw [hu];rfl
theorem bytes_at {w:World} {o:Option Addr} {m cap:Nat} {l:List Int} (h:RdS Rep.byte w (.slice o m cap) l) (k:Nat) (hk:k<l.length) :
  ∃ b off,o=some ⟨b,off,none⟩∧w.cell? ⟨b,off+k,none⟩=some (.int .u8 l[k]):=by
 obtain⟨b,off,ho,hc⟩:=RdS.at_flat h k hk;exact⟨b,off,ho,by simpa using hc 0 _ rfl⟩
theorem Tryz.infoByte:(Tryz.prog.info? 5).map (fun i=>(i.zero,i.size,i.bytes))=some (some (.int .u8 0),1,1):=by kernel_rfl
theorem elemByte:Nonempty (Elem Tryz.prog 22 5 1 1):=Elem.mk' Tryz.underlying22 Tryz.infoByte rfl (by decide)
theorem blk10 {w:World} {b:Nat} {x0 x1 x2 x3 x4 x5 x6 x7 x8 x9:Value} {t:TypeId} {f:Nat×Nat} (h:w.heap[b]?=some (.cells #[x0,x1,x2,x3,x4,x5,x6,x7,x8,x9] t f)) :
  w.cell? ⟨b,0,none⟩=some x0∧w.cell? ⟨b,1,none⟩=some x1∧w.cell? ⟨b,2,none⟩=some x2∧w.cell? ⟨b,3,none⟩=some x3∧w.cell? ⟨b,4,none⟩=some x4∧w.cell? ⟨b,5,none⟩=some x5∧w.cell? ⟨b,6,none⟩=some x6∧w.cell? ⟨b,7,none⟩=some x7∧w.cell? ⟨b,8,none⟩=some x8∧w.cell? ⟨b,9,none⟩=some x9:=
 ⟨Bt h 0,Bt h 1,Bt h 2,Bt h 3,Bt h 4,Bt h 5,Bt h 6,Bt h 7,Bt h 8,Bt h 9⟩
theorem Chg.setCell {S:Nat→Prop} {a b:World} (h:Chg S a b) {p:Addr} (hp:S p.block) (u:Value):Chg S a (b.setCell p u):=
 h.trans ⟨rfl,rfl,rfl,by simp,fun k _ hn=>Below.heap_setCell _ _ _ _ (fun e=>hn (by rw [e];exact hp))⟩
structure Pkt where
  kind:Int
  src:Int
  dst:Int
  path:Pth
  pi:Int
  hi:Int
  beta:Int
  rid:Int
  seq:Int
  pay:List Int
  deriving DecidableEq
def Pkt.c (x:Pkt) (h0 h1:Value):List Value:=[.int .i64 x.kind,.int .i64 x.src,.int .i64 x.dst,h0,.int .i64 x.pi,.int .i64 x.hi,.int .i64 x.beta,.int .i64 x.rid,.int .i64 x.seq,h1]
def Pkt.size (x:Pkt):Nat:=x.path.size+x.pay.length
def Pkt.rep:Rep Pkt where
  cells:=10
  rd w cs x:=∃ v0 v1,cs=[.int .i64 x.kind,.int .i64 x.src,.int .i64 x.dst,v0,.int .i64 x.pi,.int .i64 x.hi,.int .i64 x.beta,.int .i64 x.rid,.int .i64 x.seq,v1]∧RdS Part.rep w v0 x.path.parts∧RdS Rep.byte w v1 x.pay
  len:=by rintro w cs a ⟨v0,v1,rfl,_⟩;rfl
  ext:=by rintro w w' cs a e ⟨v0,v1,rfl,h0,h1⟩;exact⟨v0,v1,rfl,h0.ext e,h1.ext e⟩
def Pkt.ok (x:Pkt):Prop:=I64 x.kind∧I64 x.src∧I64 x.dst∧x.path.ok∧I64 x.pi∧I64 x.hi∧I64 x.beta∧I64 x.rid∧I64 x.seq∧∀ y∈x.pay,U8 y
def byteOwn:Own Int:=Own.flat byteF 1 byteFlen 5
def Pkt.own (S:Nat→Prop) (w:World) (h0 h1:Value) (x:Pkt):Prop:=
  ∃ S0 S1:Nat→Prop,Part.own.own S0 w h0 x.path.parts∧byteOwn.own S1 w h1 x.pay∧(∀ b,S0 b→S b)∧(∀ b,S1 b→S b)∧∀ b,S0 b→¬ S1 b
theorem Pkt.own_kept {S T:Nat→Prop} {w w':World} {h0 h1:Value} {x:Pkt} (h:Pkt.own S w h0 h1 x) (c:Chg T w w') (hs:∀ b,S b→¬ T b):Pkt.own S w' h0 h1 x:=by
 obtain⟨S0,S1,a,b,c0,c1,d⟩:=h;exact⟨S0,S1,Part.own.kept a c (fun k hk=>hs k (c0 k hk)),byteOwn.kept b c (fun k hk=>hs k (c1 k hk)),c0,c1,d⟩
theorem Pkt.own_ext {S:Nat→Prop} {w w':World} {h0 h1:Value} {x:Pkt} (h:Pkt.own S w h0 h1 x) (e:Ext w w'):Pkt.own S w' h0 h1 x:=
 Pkt.own_kept h (Ar (S:=noB) e) (fun _ _ h=>h)
theorem Pkt.own_mono {S T:Nat→Prop} {w:World} {h0 h1:Value} {x:Pkt} (h:Pkt.own S w h0 h1 x) (hs:∀ b,S b→T b):Pkt.own T w h0 h1 x:=by
 obtain⟨S0,S1,a,b,c0,c1,d⟩:=h;exact⟨S0,S1,a,b,fun k hk=>hs k (c0 k hk),fun k hk=>hs k (c1 k hk),d⟩
theorem Pkt.own_rd0 {S:Nat→Prop} {w:World} {h0 h1:Value} {x:Pkt} (h:Pkt.own S w h0 h1 x):RdS Part.rep w h0 x.path.parts:=by
 obtain⟨S0,S1,a,_⟩:=h;exact Part.own.rd a
theorem Pkt.own_rd1 {S:Nat→Prop} {w:World} {h0 h1:Value} {x:Pkt} (h:Pkt.own S w h0 h1 x):RdS Rep.byte w h1 x.pay:=by
 obtain⟨S0,S1,_,b,_⟩:=h;exact byteOwn.rd b
section
variable {P : Program} {w : World} {ops : Array Oper} {rest : List Oper} {o : Oper} {a : Act} {Q : Exit → Act → World → Prop}
theorem app1p {t e:TypeId} {n bytes:Nat} (E:Elem P t e n bytes) {α:Type} {f:α→List Value} (hf:∀ a,(f a).length=n) (hgd:o.guard=none) (s x:Operand)
  (ho:o.op=.call { callee:=.builtin .append,args:=#[s,x],argTypes:=#[t,t] }) {base:Nat} {v:Value} {l:List α} (b:α) (h1:∀ u∈f b,u.oneCell'=true) (hs:a.eval s=v) (hown:OwnF f n base e w v l)
  {g c:Nat} (hx:a.eval x=.slice (some ⟨g,0,none⟩) 1 c) (hnews:∀ j u,(f b)[j]?=some u→w.cell? ⟨g,j,none⟩=some u)
  (hl:(l.length+1) * bytes≤140737488355328) (hm:l.length+1≤maxLen) (hbase:base≤w.heap.size)
  (h:∀ v' w',OwnF f n base e w' v' (l ++ [b])→w.grownBy w' v.ownBlock→(v'.ownBlock=v.ownBlock∨v'.ownBlock=some w.heap.size)→wpList P ops Q rest (a.put o.dst v') w'):wpList P ops Q (o :: rest) a w:=by
 refine wpList_append_own_at w hgd s x t ho base e E.i E.z n bytes E.ht E.hi E.hz E.hsize E.hby E.hzs E.hpos v l.length (l.flatMap f) hs hown ⟨g,0,none⟩ 1 c (f b) hx (by rw [hf,Nat.one_mul]) ?_ h1 hm hl hbase ?_
 ·
  intro j u hu;have hadd:(⟨g,0,none⟩:Addr).add j=⟨g,j,none⟩:=by unfold Addr.add;split <;> simp_all
  rw [hadd];exact hnews j u hu
 intro v' w' ho' hg _ hat;refine h v' w' ?_ hg hat;unfold OwnF;rw [List.length_append,List.flatMap_append,List.flatMap_cons,List.flatMap_nil,List.append_nil];exact ho'
variable {α β : Type} {n : Nat} {c : α → Value → List Value} {hc : ∀ a v, (c a v).length = n} {sub : α → List β} {e : TypeId} {I : Own β}
theorem appN {t:TypeId} {bytes lo:Nat} (E:Elem P t e n bytes) (hgd:o.guard=none) (s x:Operand)
  (ho:o.op=.call { callee:=.builtin .append,args:=#[s,x],argTypes:=#[t,t] }) {w0:World} {v:Value} {l:List α} (b:α) (hv:Value) (T:Nat→Prop)
  (h1:∀ u∈c b hv,u.oneCell'=true) (hs:a.eval s=v) (hown:(Own.nest n c hc sub e I).own (rng lo w0.heap.size) w0 v l) (hx0:Ext w0 w) (hi:I.own T w hv (sub b)) (hT:∀ q,T q→w0.heap.size≤q∧q<w.heap.size) (hlo:lo≤w0.heap.size)
  {g cp:Nat} (hx:a.eval x=.slice (some ⟨g,0,none⟩) 1 cp) (hnews:∀ j u,(c b hv)[j]?=some u→w.cell? ⟨g,j,none⟩=some u)
  (hl:(l.length+1) * bytes≤140737488355328) (hm:l.length+1≤maxLen)
  (h:∀ v' w',(Own.nest n c hc sub e I).own (rng lo w'.heap.size) w' v' (l ++ [b])→w.grownBy w' v.ownBlock→(∀ q,v.ownBlock=some q→lo≤q)→wpList P ops Q rest (a.put o.dst v') w'):wpList P ops Q (o :: rest) a w:=by
 obtain⟨qs,hq,hoq,hS,hqq,hd⟩:=hown;have hlq:qs.length=l.length:=by rw [← hq,List.length_map]
 refine app1p E (f:=capF c) (fun q:Cap α=>hc q.dat q.val) hgd s x ho (⟨b,hv,T⟩:Cap α) h1 hs (hoq.ext hx0) hx hnews (by rw [hlq];exact hl) (by rw [hlq];exact hm) (Nat.zero_le _) ?_;intro v' w' ho' hg hat;refine h v' w' ?_ hg (fun q hq=>(hS q hq).1);refine nest_push (S:=rng lo w0.heap.size) (T:=T) qs b hv hq hS hqq hd (fun k hk=>(hS k hk).2) hx0 hi (fun q hTq=>⟨⟨Ad hlo (hT q hTq).1,Ak (hT q hTq).2 hg.size⟩,(hT q hTq).1,(hT q hTq).2⟩) (fun q hq=>⟨hq.1,Ak hq.2 (Ad hx0.size hg.size)⟩) hg ?_ ho'
 rcases hat with h2 | h2
 ·
  exact .inl h2
 exact .inr ⟨_,h2,Ae _,⟨Ad hlo hx0.size,(ho'.block _ h2).2⟩⟩
end
theorem elemPartC:Nonempty (Elem Tryz.prog 28 99 4 48):=Elem.mk' Tryz.underlying28 Tryz.infoPart rfl (by decide)
theorem part_oneC (x:Part) (o:Option Addr) (n c:Nat):∀ u∈Part.c x (.slice o n c),u.oneCell'=true:=by
 intro u hu;simp only [Part.c,List.mem_cons,List.not_mem_nil,or_false] at hu
 rcases hu with rfl | rfl | rfl | rfl <;> rfl
theorem take_snocE {α:Type} {l:List α} {k:Nat} (hk:k<l.length):l.take k ++ [l[k]]=l.take (k+1):=(List.take_succ_eq_append_getElem hk).symm
theorem i_copyHops (l:List Hop) (v:Value) (w:World) (hv:RdS Hop.rep w v l) (hl:l.length≤1048576) :
  Calls Tryz.prog 119 #[v] w fun e w'=>∃ v',e=.returned v'∧OwnF Hop.f 5 w.heap.size 103 w' v' l∧Ext w w':=by
 obtain⟨E⟩:=elemHop
 go_enter Tryz.func119,Tryz.ntmps119
 go_wp2_with (at_builtin;refine appS E Ao Hop.one rfl _ _ rfl l rfl (Bj Hop.f 5 w.heap.size _ w (Ae _)) rfl (hv.ext ((Ab _).alloc _)) (by first | omega | (simp;omega)) (by first | (unfold maxLen;omega) | (simp [maxLen];omega)) (by simp) ?_)
 intro v' w' ho' hg';have hx':Ext w w':=((Ab w).alloc _).app hg' (Bj Hop.f 5 w.heap.size 103 w (Ae _)) (Ae _)
 try rw [List.nil_append] at ho'
 clear hg'
 go_wp2
 go_ret
 exact⟨_,rfl,ho',hx'⟩
theorem s_l21Copy (x:Part) (v:Value) (w:World) (r:RdS Hop.rep w v x.hops) (hl:x.hops.length≤1048576) :
  Calls Tryz.prog 138 #[.agg #[.int .i64 x.kind,.int .i64 x.ts,.int .i64 x.beta,v]] w fun e w'=>∃ u,e=.returned (.agg #[.int .i64 x.kind,.int .i64 x.ts,.int .i64 x.beta,u])∧OwnF Hop.f 5 (w.heap.size+3) 103 w' u x.hops∧Ext w w':=by
 obtain⟨E⟩:=elemHop;obtain⟨o,cap,rfl,hsm⟩:=r.shape
 have hx0:=(ext3 w (.cells #[.int .i64 x.kind,.int .i64 x.ts,.int .i64 x.beta,.slice o x.hops.length cap] 99) (.cells #[.int .i64 0,.int .i64 0,.int .i64 0,.slice none 0 0] 99) (.cells #[.int .i64 x.kind,.int .i64 x.ts,.int .i64 x.beta,.slice o x.hops.length cap] 99))
 have hB:=al3 w (.cells #[.int .i64 x.kind,.int .i64 x.ts,.int .i64 x.beta,.slice o x.hops.length cap] 99) (.cells #[.int .i64 0,.int .i64 0,.int .i64 0,.slice none 0 0] 99) (.cells #[.int .i64 x.kind,.int .i64 x.ts,.int .i64 x.beta,.slice o x.hops.length cap] 99);have HB:=Ac hB;clear hB;have hrx:=r.ext (hx0.alloc (.cells #[] 103))
 go_enter Tryz.func138,Tryz.ntmps138
 go_wp2_with (at_builtin;refine appS (v:=.slice (some ⟨w.heap.size+1+1+1,0,none⟩) 0 0) (l:=[]) E Ao Hop.one rfl _ _ rfl x.hops rfl (Cg (f:=Hop.f) (n:=5) (base:=w.heap.size+3) (by simp) (by omega)) rfl hrx (by first | omega | (simp;omega)) (by first | (unfold maxLen;omega) | (simp [maxLen];omega)) (by simp) ?_)
 intro v' w' ho' hg'
 have hblk (q:Nat) (ob:Obj) (hq:q<w.heap.size+3) (h:(((w.alloc (.cells #[.int .i64 x.kind,.int .i64 x.ts,.int .i64 x.beta,.slice o x.hops.length cap] 99)).alloc (.cells #[.int .i64 0,.int .i64 0,.int .i64 0,.slice none 0 0] 99)).alloc (.cells #[.int .i64 x.kind,.int .i64 x.ts,.int .i64 x.beta,.slice o x.hops.length cap] 99)).heap[q]?=some ob):w'.heap[q]?=some ob:=
  (hg'.block q (by simp;omega) (by simp [Value.ownBlock];omega)).trans (Aa ((Ab _).alloc _) h)
 have hb1:=hblk _ _ (by omega) HB.out.2.1;have hb2:=hblk _ _ (by omega) HB.out.2.2;have hx':Ext w w':=(hx0.alloc _).grown hg' (fun k hk=>by simp [Value.ownBlock] at hk;omega);have hsz:w.heap.size+3≤w'.heap.size:=Ad (by simp) hg'.size
 try rw [List.nil_append] at ho'
 clear hg' hblk;obtain⟨oo,co,rfl,_⟩:=(Bb (hf:=Ao) ho').shape;have c1:=blk4 hb1;have c2:=blk4 hb2;have g0:=fr4 hb1;have gg:=fr_of hb2 3;clear hb1 hb2
 go_wp2_with fail
 refine bodyPost_ret (by simp [results,Tryz.results138,go_sem,c1];rfl) rfl ⟨_,rfl,?_,?_⟩
 ·
  exact((((ho'.set (by simp) _).set (by simp) _).set (by simp) _).set (by simp) _).set (by simp) _
 exact((((hx'.setCell (by simp;omega) _).setCell (by simp) _).setCell (by simp) _).setCell (by simp) _).setCell (by simp) _
theorem i_copyPath (x:Pth) (v:Value) (w:World) (r:RdS Part.rep w v x.parts) (hl:x.size≤1048576) :
  Calls Tryz.prog 66 #[.agg #[v]] w fun e w'=>∃ u,e=.returned (.agg #[u])∧Part.own.own (rng w.heap.size w'.heap.size) w' u x.parts∧Ext w w':=by
 obtain⟨ps⟩:=x;unfold Pth.size at hl;dsimp only at r hl ⊢
 obtain⟨o,cap,rfl,hsm⟩:=r.shape;obtain⟨E⟩:=elemPartC;have hx0:=ext2 w (.cells #[.slice o ps.length cap] 30) (.cells #[.slice none 0 0] 30);have hB:=al3 w (.cells #[.slice o ps.length cap] 30) (.cells #[.slice none 0 0] 30) (.cells #[.slice none 0 0] 30);have HB:=Ac hB;clear hB;have HB2:=Ac (al2 w (.cells #[.slice o ps.length cap] 30) (.cells #[.slice none 0 0] 30))
 go_enter Tryz.func66,Tryz.ntmps66
 go_wp2
 go_loopg [9] ps.length (fun gk i wr=>∃ k:Nat,gk+k=ps.length∧i=.int .i64 k∧(∃ ok ck,Hid (wr.heap[w.heap.size+1+1]?=some (.cells #[.slice ok k ck] 30))∧Part.own.own (rng (w.heap.size+1+1+1) wr.heap.size) wr (.slice ok k ck) (ps.take k))∧w.heap.size+1+1+1≤wr.heap.size∧Ext ((w.alloc (.cells #[.slice o ps.length cap] 30)).alloc (.cells #[.slice none 0 0] 30)) wr)
 case atStart=>
  refine⟨0,rfl,rfl,⟨none,0,Ac HB.out.2.2,?_⟩,by simp,(Ab _).alloc _⟩;exact Part.own.mono (Part.own.nil _) (fun b hb=>hb.elim)
 case round=>
  obtain⟨k,hgk,rfl,⟨ok,ck,HBk,hown⟩,hsw,hx⟩:=hrel;have hcb:=blk1 (hx.block HB2.out.1);have hc3:=blk1 HBk.out
  by_cases hlt:k<ps.length
  ·
   obtain⟨b,off,oh,ch,rfl,hc,hr⟩:=Bx r k hlt;have hcx:=Ag (hx0.t hx) hc;have hrj:=hr.ext (hx0.t hx);clear hc;have hle:=hopsN_le hlt;have hg':gk - 1+(k+1)=ps.length∧gk - 1<gk:=by omega
   have HG:=Ac hg';clear hg' hgk;have htl:(ps.take k).length=k:=by simp;omega
   have hln:(ps.take k).length+1≤1048577:=by omega
   have HE:=Ac (take_snocE hlt);generalize ps.take k=out at *;obtain⟨hxa,HX⟩:=ea1 wr (.cells #[.int .i64 ps[k].kind,.int .i64 ps[k].ts,.int .i64 ps[k].beta,.slice oh ps[k].hops.length ch] 99);replace HX:=Ac HX
   go_wp2_with fail
   refine(i_copyHops ps[k].hops _ _ (hrj.ext hxa) (by omega)).mono ?_;rintro e w1 ⟨u,rfl,ou,h1⟩;obtain⟨oo,co,rfl,_⟩:=(Bb (hf:=Ao) ou).shape;have hbx:=h1.block HX.out;have hck:=blk1 (Aa (hxa.trans h1) HBk.out);have hcX:=blk4 hbx;have fX:=fr_of hbx 3;have hs1:wr.heap.size<w1.heap.size:=blk_lt hbx;have ous:=ou.set (p:=⟨wr.heap.size,3,none⟩) (by simp) (.slice oo ps[k].hops.length co);have hxs:Ext wr (w1.setCell ⟨wr.heap.size,3,none⟩ (.slice oo ps[k].hops.length co)):=(hxa.trans h1).setCell (by simp) _;have hbk:=Aa (hxs.alloc (.cells #[.int .i64 ps[k].kind,.int .i64 ps[k].ts,.int .i64 ps[k].beta,.slice oo ps[k].hops.length co] 99)) HBk.out;have HBK:=Ac hbk;clear hbk hbx ou;have hnew:=blk_new (w1.setCell ⟨wr.heap.size,3,none⟩ (.slice oo ps[k].hops.length co)) (.cells #[.int .i64 ps[k].kind,.int .i64 ps[k].ts,.int .i64 ps[k].beta,.slice oo ps[k].hops.length co] 99);rw [show(w1.setCell ⟨wr.heap.size,3,none⟩ (.slice oo ps[k].hops.length co)).heap.size=w1.heap.size from by simp] at hnew;have HNEW:=Ac hnew;clear hnew
   go_wp2_with (at_builtin;refine appN (lo:=w.heap.size+1+1+1) (w0:=wr) (c:=Part.c) (hc:=Part.clen) (sub:=(·.hops)) (I:=Own.flat Hop.f 5 Ao 103) E rfl _ _ rfl ps[k] (.slice oo ps[k].hops.length co) (rng (wr.heap.size+1) w1.heap.size) (part_oneC _ _ _ _) rfl hown (hxs.alloc _) (Aj (O:=Own.flat Hop.f 5 Ao 103) (Own.mono _ (Own.ofF (hf:=Ao) ous) (fun q hq=>⟨by have:=hq.1;simpa using this,by have:=hq.2;simpa using this⟩)) ((Ab _).alloc _)) (fun q hq=>⟨by have:=hq.1;omega,by have:=hq.2;simp;omega⟩) hsw rfl (by exact Au (Part.c ps[k] (.slice oo ps[k].hops.length co)) HNEW.out) (by omega) (by unfold maxLen;omega) ?_)
   intro v' w' ho' hg' hvlo;have hx':=((hx.t hxs).alloc _).grown hg' (fun q hq=>Ad (by simp) (hvlo q hq));have hb3':=(hg'.block (w.heap.size+1+1) (blk_lt HBK.out) (fun e=>by have:=hvlo _ e.symm;omega)).trans HBK.out;rw [HE.out] at ho';obtain⟨on,cn,hve,_⟩:=(Bs ho').shape;rw [show(ps.take (k+1)).length=k+1 from by simp;omega] at hve;subst hve;have c3':=blk1 hb3';have f3':=fr_of hb3' 0;have hb4:=blk_set hb3' 0 (.slice on (k+1) cn);simp only [List.setIfInBounds_toArray,List.set_cons_zero] at hb4;have HB4:=Ac hb4;clear hb4 hb3';have hx4:=hx'.setCell (p:=⟨w.heap.size+1+1,0,none⟩) (by simp) (.slice on (k+1) cn);have HO4:=Ac (Own.kept Part.own ho' (⟨rfl,rfl,rfl,by simp [World.setCell],fun q hq hn=>Below.heap_setCell _ _ _ _ hn⟩:Chg (fun q=>q=w.heap.size+1+1) w' (w'.setCell ⟨w.heap.size+1+1,0,none⟩ (.slice on (k+1) cn))) (fun q hq e=>by have:=hq.1;omega));have hsw':w.heap.size+1+1+1≤w'.heap.size:=Ad hsw (Ad (hxs.alloc _:Ext wr _).size hg'.size);clear hg' ho' hvlo
   go_wp2_with fail
   go_roundg (gk - 1)
   case measure=>exact HG.out.2
   case rel=>exact⟨k+1,HG.out.1,by go_num,⟨on,cn,HB4,by simpa using HO4.out⟩,by simpa using hsw',hx4⟩
  rw [List.take_of_length_le (by omega)] at hown;have hcr:=blk1 (hx.block HB2.out.2);have g0:=fr_of (hx.block HB2.out.2) 0
  go_wp2
  refine bodyPost_ret (by simp [results,Tryz.results66,go_sem,hcr];rfl) rfl ⟨_,rfl,?_,?_⟩
  ·
   refine Part.own.mono (Own.kept Part.own hown (⟨rfl,rfl,rfl,by simp [World.setCell],fun q hq hn=>Below.heap_setCell _ _ _ _ hn⟩:Chg (fun q=>q=w.heap.size+1) wr (wr.setCell ⟨w.heap.size+1,0,none⟩ (.slice ok k ck))) (fun q hq e=>by have:=hq.1;omega)) (fun q hq=>⟨by have:=hq.1;omega,by simpa using hq.2⟩)
  exact(hx0.t hx).setCell (by simp) _
theorem s_l22Copy (x:Pth) (v:Value) (w:World) (r:RdS Part.rep w v x.parts) (hl:x.size≤1048576) :
  Calls Tryz.prog 97 #[.agg #[v]] w fun e w'=>∃ u,e=.returned (.agg #[u])∧Part.own.own (rng w.heap.size w'.heap.size) w' u x.parts∧Ext w w':=by
 obtain⟨ps⟩:=x;unfold Pth.size at hl;dsimp only at r hl ⊢
 obtain⟨o,cap,rfl,hsm⟩:=r.shape;obtain⟨E⟩:=elemPartC;have hx0:=ext2 w (.cells #[.slice o ps.length cap] 30) (.cells #[.slice none 0 0] 30);have hB:=al3 w (.cells #[.slice o ps.length cap] 30) (.cells #[.slice none 0 0] 30) (.cells #[.slice none 0 0] 30);have HB:=Ac hB;clear hB;have HB2:=Ac (al2 w (.cells #[.slice o ps.length cap] 30) (.cells #[.slice none 0 0] 30))
 go_enter Tryz.func97,Tryz.ntmps97
 go_wp2
 go_loopg [4] ps.length (fun gk i wr=>∃ k:Nat,gk+k=ps.length∧i=.int .i64 k∧(∃ ok ck,Hid (wr.heap[w.heap.size+1+1]?=some (.cells #[.slice ok k ck] 30))∧Part.own.own (rng (w.heap.size+1+1+1) wr.heap.size) wr (.slice ok k ck) (ps.take k))∧w.heap.size+1+1+1≤wr.heap.size∧Ext ((w.alloc (.cells #[.slice o ps.length cap] 30)).alloc (.cells #[.slice none 0 0] 30)) wr)
 case atStart=>
  refine⟨0,rfl,rfl,⟨none,0,Ac HB.out.2.2,?_⟩,by simp,(Ab _).alloc _⟩;exact Part.own.mono (Part.own.nil _) (fun b hb=>hb.elim)
 case round=>
  obtain⟨k,hgk,rfl,⟨ok,ck,HBk,hown⟩,hsw,hx⟩:=hrel;have hcb:=blk1 (hx.block HB2.out.1);have hc3:=blk1 HBk.out
  by_cases hlt:k<ps.length
  ·
   obtain⟨b,off,oh,ch,rfl,hc,hr⟩:=Bx r k hlt;have hcx:=Ag (hx0.t hx) hc;have hrj:=hr.ext (hx0.t hx);clear hc;have hle:=hopsN_le hlt;have hg':gk - 1+(k+1)=ps.length∧gk - 1<gk:=by omega
   have HG:=Ac hg';clear hg' hgk;have htl:(ps.take k).length=k:=by simp;omega
   have hln:(ps.take k).length+1≤1048577:=by omega
   have HE:=Ac (take_snocE hlt);generalize ps.take k=out at *
   go_wp2_with fail
   refine(s_l21Copy ps[k] _ _ hrj (by omega)).mono ?_;rintro e w1 ⟨u,rfl,ou,h1⟩;obtain⟨oo,co,rfl,_⟩:=(Bb (hf:=Ao) ou).shape;have hbb:=al2 w1 (.cells #[.int .i64 ps[k].kind,.int .i64 ps[k].ts,.int .i64 ps[k].beta,.slice oo ps[k].hops.length co] 99) (.cells #[.int .i64 ps[k].kind,.int .i64 ps[k].ts,.int .i64 ps[k].beta,.slice oo ps[k].hops.length co] 99);have HBB:=Ac hbb;clear hbb;have hck:=blk1 (Aa h1 HBk.out);have hck2:=blk1 (Aa (h1.alloc (.cells #[.int .i64 ps[k].kind,.int .i64 ps[k].ts,.int .i64 ps[k].beta,.slice oo ps[k].hops.length co] 99)) HBk.out);have hxs:Ext wr (w1.alloc (.cells #[.int .i64 ps[k].kind,.int .i64 ps[k].ts,.int .i64 ps[k].beta,.slice oo ps[k].hops.length co] 99)):=h1.alloc _;have hbk:=Aa (hxs.alloc (.cells #[.int .i64 ps[k].kind,.int .i64 ps[k].ts,.int .i64 ps[k].beta,.slice oo ps[k].hops.length co] 99)) HBk.out;have HBK:=Ac hbk;clear hbk;have ous:=Own.mono _ (Own.ofF (hf:=Ao) ou) (T:=rng wr.heap.size w1.heap.size) (fun q hq=>⟨by have:=hq.1;omega,hq.2⟩)
   go_wp2_with (at_builtin;refine appN (lo:=w.heap.size+1+1+1) (w0:=wr) (c:=Part.c) (hc:=Part.clen) (sub:=(·.hops)) (I:=Own.flat Hop.f 5 Ao 103) E rfl _ _ rfl ps[k] (.slice oo ps[k].hops.length co) (rng wr.heap.size w1.heap.size) (part_oneC _ _ _ _) rfl hown (hxs.alloc _) (Aj (O:=Own.flat Hop.f 5 Ao 103) ous (((Ab _).alloc _).alloc _)) (fun q hq=>⟨hq.1,by have:=hq.2;simp;omega⟩) hsw rfl (by exact Au (Part.c ps[k] (.slice oo ps[k].hops.length co)) (blk_new2 w1 _ _)) (by omega) (by unfold maxLen;omega) ?_)
   intro v' w' ho' hg' hvlo;have hx':=((hx.t hxs).alloc _).grown hg' (fun q hq=>Ad (by simp) (hvlo q hq));have hb3':=(hg'.block (w.heap.size+1+1) (blk_lt HBK.out) (fun e=>by have:=hvlo _ e.symm;omega)).trans HBK.out;rw [HE.out] at ho';obtain⟨on,cn,hve,_⟩:=(Bs ho').shape;rw [show(ps.take (k+1)).length=k+1 from by simp;omega] at hve;subst hve;have c3':=blk1 hb3';have f3':=fr_of hb3' 0;have hb4:=blk_set hb3' 0 (.slice on (k+1) cn);simp only [List.setIfInBounds_toArray,List.set_cons_zero] at hb4;have HB4:=Ac hb4;clear hb4 hb3';have hx4:=hx'.setCell (p:=⟨w.heap.size+1+1,0,none⟩) (by simp) (.slice on (k+1) cn);have HO4:=Ac (Own.kept Part.own ho' (⟨rfl,rfl,rfl,by simp [World.setCell],fun q hq hn=>Below.heap_setCell _ _ _ _ hn⟩:Chg (fun q=>q=w.heap.size+1+1) w' (w'.setCell ⟨w.heap.size+1+1,0,none⟩ (.slice on (k+1) cn))) (fun q hq e=>by have:=hq.1;omega));have hsw':w.heap.size+1+1+1≤w'.heap.size:=Ad hsw (Ad (hxs.alloc _:Ext wr _).size hg'.size);clear hg' ho' hvlo
   go_wp2_with fail
   go_roundg (gk - 1)
   case measure=>exact HG.out.2
   case rel=>exact⟨k+1,HG.out.1,by go_num,⟨on,cn,HB4,by simpa using HO4.out⟩,by simpa using hsw',hx4⟩
  rw [List.take_of_length_le (by omega)] at hown;have hcr:=blk1 (hx.block HB2.out.2);have g0:=fr_of (hx.block HB2.out.2) 0
  go_wp2
  refine bodyPost_ret (by simp [results,Tryz.results97,go_sem,hcr];rfl) rfl ⟨_,rfl,?_,?_⟩
  ·
   refine Part.own.mono (Own.kept Part.own hown (⟨rfl,rfl,rfl,by simp [World.setCell],fun q hq hn=>Below.heap_setCell _ _ _ _ hn⟩:Chg (fun q=>q=w.heap.size+1) wr (wr.setCell ⟨w.heap.size+1,0,none⟩ (.slice ok k ck))) (fun q hq e=>by have:=hq.1;omega)) (fun q hq=>⟨by have:=hq.1;omega,by simpa using hq.2⟩)
  exact(hx0.t hx).setCell (by simp) _
end
section
theorem ofInt_nat (a:Nat) (ha:a<9223372036854775808):(BitVec.ofInt 64 (a:Int)).toNat=a:=by
 rw [BitVec.ofInt_natCast,BitVec.toNat_ofNat];exact Nat.mod_eq_of_lt (by omega)
theorem and_nat (a b:Nat) (ha:a<9223372036854775808) (hb:b<9223372036854775808):bits .and .i64 (a:Int) (b:Int)=((a &&& b:Nat):Int):=by
 have hx:a &&& b<2 ^ 63:=Nat.and_lt_two_pow _ (by omega)
 show IntKind.i64.wrap ((BitVec.ofInt 64 (a:Int) &&& BitVec.ofInt 64 (b:Int)).toNat:Int)=_
 rw [BitVec.toNat_and,ofInt_nat a ha,ofInt_nat b hb,IntKind.wrap_i64];omega
end
section
open Go.ChangeShapes Go.WideShapes Go.ChangeAt Go.RowKit Go.Deep
set_option maxRecDepth 100000
set_option maxHeartbeats 2000000
section
variable {P : Program} {ops : Array Oper} {Q : Exit → Act → World → Prop} {C : World → Prop}
def plainOp:Op→Bool
  | .move _ | .assign _ | .pick .. | .load .. | .fieldAddr .. | .field .. | .indexAddr .. | .index .. | .binOp .. | .unOp .. | .convert .. | .slice .. | .extract .. | .build .. => true
  | .call { callee := .builtin .len, .. } => true
  | _ => false
def ValueOrHalt (r:Result Next):Prop:=(∃ u w',r=.ok (.value u) w')∨∃ h w',r=.halt h w'
theorem vh_bind (s:Sem Value) (w:World):ValueOrHalt ((do pure (Next.value (← s)):Sem Next).run P w):=by
 simp only [Sem.run_bind]
 cases s.run P w with
 | ok a w' => exact .inl ⟨a, w', rfl⟩
 | halt h w' => exact .inr ⟨h, w', rfl⟩
theorem vh_map {α:Type} (s:Sem α) (f:α→Value) (w:World):ValueOrHalt ((do let x ← s;pure (Next.value (f x)):Sem Next).run P w):=by
 simp only [Sem.run_bind]
 cases s.run P w with
 | ok a w' => exact .inl ⟨f a, w', rfl⟩
 | halt h w' => exact .inr ⟨h, w', rfl⟩
theorem plain_run (ρ:Operand→Value) (o:Oper) (h:plainOp o.op=true) (w:World):ValueOrHalt ((execOp ρ o).run P w):=by
 unfold execOp
 cases ho:o.op <;> simp only [ho,plainOp,Bool.false_eq_true] at h ⊢
 case pick c a b=>exact vh_map (asBool (ρ c)) (fun x=>if x then ρ a else ρ b) w
 case call c=>
  obtain⟨callee,args,argTypes⟩:=c
  cases callee with
  | builtin b =>
   cases b <;> simp only [Bool.false_eq_true] at h
   exact vh_bind _ w
  | value f => simp at h
  | invoke r m => simp at h
 all_goals first
  | exact vh_bind _ w
  | exact .inl ⟨_, _, rfl⟩
theorem yieldsIf_of_quiet {o:Oper} {a:Act} {v:Value} (hp:plainOp o.op=true) (hw:Region.wanted o (yielded ops a.tmps)=true) (h:∀ w,C w→o.quietAt P a C w v):YieldsIf P ops C o v a:=by
 refine .inl ⟨hw,fun w hC=>?_⟩;have h1:=h w hC;unfold Oper.quietAt at h1
 rcases plain_run (P:=P) a.eval o hp w with ⟨u,w',hr⟩ | ⟨x,w',hr⟩
 ·
  rw [hr] at h1 ⊢
  obtain⟨rfl,rfl⟩:=h1;rfl
 rw [hr] at h1;exact h1.elim
def schedOps (ops:Array Oper) (l:List (Nat×Bool)):List (Oper×Bool):=l.filterMap fun x=>(ops[x.1]?).map fun o=>(o,x.2)
theorem wp_exit {o:Oper} {a:Act} {w:World} {K K':Act→World→Prop} (h:o.wp P a w K (Exit.then K' Q)):o.wp P a w K Q:=by
 unfold Oper.wp at *;generalize (execOp a.eval o).run P w=r at *
 cases r with
 | ok n w' =>
  cases n <;> simp only [Oper.upon] at h ⊢
  case enter f args=>exact Calls.mono h fun e w'' he=>by cases e <;> exact he
  all_goals exact h
 | halt x w' =>
  cases x <;> simp only [Oper.upon] at h ⊢
  all_goals exact h
theorem wpList_one {o:Oper} {a:Act} {w:World} {K:Act→World→Prop} {i:Nat} (ho:ops[i]?=some o) (h:wpList P ops (Exit.then K Q) [o] a w):wpOp P ops Q i K a w:=by
 unfold wpOp;simp only [ho];simp only [wpList] at h
 by_cases hw:Region.wanted o (yielded ops a.tmps)=true
 ·
  rw [if_pos hw] at h ⊢
  rcases h with h | ⟨h1,h2⟩
  ·
   exact .inl (wp_exit h)
  exact .inr ⟨h1,h2⟩
 rw [if_neg hw] at h ⊢
 exact h
def pickOps (ops:Array Oper) (l:List Nat):List Oper:=l.filterMap fun i=>ops[i]?
def blocks:List (List Nat×Nat)→List Nat→List (Nat×Bool)
  | [], tail => tail.map fun i => (i, true)
  | (l1, s) :: bs, tail => (l1.map fun i => (i, true)) ++ (s, false) :: blocks bs tail
theorem schedOps_append (l l':List (Nat×Bool)):schedOps ops (l ++ l')=schedOps ops l ++ schedOps ops l':=by simp [schedOps]
theorem schedOps_plain (l:List Nat):schedOps ops (l.map fun i=>(i,true))=(pickOps ops l).map fun o=>(o,true):=by
 induction l with
 | nil => rfl
 | cons i l ih =>
  simp only [schedOps,pickOps] at ih ⊢
  cases ho:ops[i]? <;> simp [ho,ih]
theorem wpQuiet_mono {Q1 Q2:Act→Prop} (hq:∀ a,Q1 a→Q2 a):∀ (l:List Oper) (a:Act),wpQuiet P ops C Q1 l a→wpQuiet P ops C Q2 l a
 | [], _, h => hq _ h
 | o :: l, a, h => by
  simp only [wpQuiet] at h ⊢
  by_cases hw:Region.wanted o (yielded ops a.tmps)=true
  ·
   rw [if_pos hw] at h ⊢
   obtain⟨v,hv,hn⟩:=h;exact⟨v,hv,wpQuiet_mono hq l _ hn⟩
  rw [if_neg hw] at h ⊢
  exact wpQuiet_mono hq l _ h
theorem wp_mono2 {o:Oper} {a:Act} {w:World} {K K':Act→World→Prop} {Q Q':Exit→Act→World→Prop} (hk:∀ a w,K a w→K' a w) (hq:∀ e a w,Q e a w→Q' e a w) (h:o.wp P a w K Q):o.wp P a w K' Q':=by
 unfold Oper.wp at *;generalize (execOp a.eval o).run P w=r at *
 cases r with
 | ok n w' =>
  cases n <;> simp only [Oper.upon] at h ⊢
  case enter f args=>
   refine Calls.mono h fun e w'' he=>?_
   cases e with
   | returned v => exact hk _ _ he
   | panicked c => exact hq _ _ _ he
   | outgrown => obtain ⟨a2, w2, h2⟩ := he; exact ⟨a2, w2, hq _ _ _ h2⟩
  case row r args=>exact Rows.mono h fun u w'' he=>hk _ _ he
  all_goals exact hk _ _ h
 | halt x w' =>
  cases x <;> simp only [Oper.upon] at h ⊢
  all_goals exact hq _ _ _ h
theorem wpList_mono {Q Q':Exit→Act→World→Prop} (hq:∀ e a w,Q e a w→Q' e a w):∀ {l:List Oper} {a:Act} {w:World},wpList P ops Q l a w→wpList P ops Q' l a w
 | [], _, _, h => hq _ _ _ h
 | o :: l, a, w, h => by
  simp only [wpList] at h ⊢
  by_cases hw:Region.wanted o (yielded ops a.tmps)=true
  ·
   rw [if_pos hw] at h ⊢
   rcases h with h | ⟨h1,a2,w2,h2⟩
   ·
    exact .inl (wp_mono2 (fun a w h'=>wpList_mono hq h') hq h)
   exact .inr ⟨h1,a2,w2,hq _ _ _ h2⟩
  rw [if_neg hw] at h ⊢
  exact wpList_mono hq h
end
def at1 (g:Nat):Nat→Prop:=fun b=>b=g
theorem Chg.up {g:Nat} {S:Nat→Prop} {a b c:World} (h:Chg (at1 g) a b) (k:Chg S b c) (hs:∀ i,S i→i=g∨a.heap.size≤i):Chg (at1 g) a c:=
 ⟨k.os.trans h.os, k.tape.trans h.tape, k.output.trans h.output, Ad h.size k.size, fun i hi hn =>
  (k.block i (Ak hi h.size) (fun hk => by rcases hs i hk with e | e; exact hn e; omega)).trans (h.block i hi hn)⟩
theorem Chg.ext {g:Nat} {a b c:World} (h:Chg (at1 g) a b) (k:Ext b c):Chg (at1 g) a c:=h.trans (Ar k)
theorem Chg.blkS {S:Nat→Prop} {a b:World} (h:Chg S a b) {k:Nat} {o:Obj} (hb:a.heap[k]?=some o) (hn:¬ S k):b.heap[k]?=some o:=
 (h.block k (blk_lt hb) hn).trans hb
theorem Chg.cell {S:Nat→Prop} {a b:World} (h:Chg S a b) {p:Addr} {v:Value} (hc:a.cell? p=some v) (hn:¬ S p.block):b.cell? p=some v:=
 (World.cell?_of_block (w:=a) (h.block p.block (World.block_lt_of_cell? a p hc) hn)).trans hc
theorem Ext.ofCur {a b c:World} {g:Nat} (h:Ext a b) (k:Chg (at1 g) b c) (hg:a.heap.size≤g):Ext a c:=h.chg k (fun i hi=>by have h1:i=g:=hi;omega)
def St {α:Type} (g:Nat) (r:Rep α) (w:World) (v:Value) (l:List α):Prop:=∀ w',Chg (at1 g) w w'→RdS r w' v l
theorem St.rd {α:Type} {g:Nat} {r:Rep α} {w:World} {v:Value} {l:List α} (h:St g r w v l):RdS r w v l:=h w (Bq _ _)
theorem St.step {α:Type} {g:Nat} {r:Rep α} {w w':World} {v:Value} {l:List α} (h:St g r w v l) (c:Chg (at1 g) w w'):St g r w' v l:=fun w2 c2=>h w2 (c.trans c2)
theorem St.ext {α:Type} {g:Nat} {r:Rep α} {w w':World} {v:Value} {l:List α} (h:St g r w v l) (c:Ext w w'):St g r w' v l:=h.step (Ar c)
theorem St.ofF {α:Type} {n:Nat} {f:α→List Value} {hf:∀ a,(f a).length=n} {g base:Nat} {e:TypeId} {w:World} {v:Value} {l:List α} (h:OwnF f n base e w v l) (hg:g<base):St g (Rep.flat n f hf) w v l:=
 fun _ c=>Bb (h.chg c (fun k hk e=>by have h1:=(h.block k hk).1;have h2:k=g:=e;omega))
theorem St.nil {α:Type} (g:Nat) (r:Rep α) (w:World):St g r w (.slice none 0 0) []:=fun _ _=>RdS.nil _ _
structure ChgW (g : Nat) (w : World) where
  w':World
  h:Chg (at1 g) w w'
instance (g : Nat) (w : World) : Nonempty (ChgW g w) := ⟨⟨w, Bq _ w⟩⟩
theorem ChgW.cell {g:Nat} {w:World} {p:Addr} {v:Value} (h:w.cell? p=some v) (hn:p.block≠g):∀ x:ChgW g w,x.w'.cell? p=some v:=fun x=>x.h.cell h hn
theorem ChgW.out {g:Nat} {w w1:World} (h:∃ x:ChgW g w,w1=x.w'):Chg (at1 g) w w1:=by obtain⟨y,rfl⟩:=h;exact y.h
structure ChgSW (S : Nat → Prop) (w : World) where
  w':World
  h:Chg S w w'
instance (S : Nat → Prop) (w : World) : Nonempty (ChgSW S w) := ⟨⟨w, Bq _ w⟩⟩
theorem ChgSW.cell {S:Nat→Prop} {w:World} {p:Addr} {v:Value} (h:w.cell? p=some v) (hn:¬ S p.block):∀ x:ChgSW S w,x.w'.cell? p=some v:=fun x=>x.h.cell h hn
theorem ChgSW.c2 {S:Nat→Prop} {w:World} {b o0 o1:Nat} {v0 v1:Value} (h:w.cell? ⟨b,o0,none⟩=some v0∧w.cell? ⟨b,o1,none⟩=some v1) (hn:¬ S b):(∀ x:ChgSW S w,x.w'.cell? ⟨b,o0,none⟩=some v0)∧(∀ x:ChgSW S w,x.w'.cell? ⟨b,o1,none⟩=some v1):=⟨ChgSW.cell h.1 hn,ChgSW.cell h.2 hn⟩
theorem ChgSW.c3 {S:Nat→Prop} {w:World} {b o0 o1 o2:Nat} {v0 v1 v2:Value} (h:w.cell? ⟨b,o0,none⟩=some v0∧w.cell? ⟨b,o1,none⟩=some v1∧w.cell? ⟨b,o2,none⟩=some v2) (hn:¬ S b):(∀ x:ChgSW S w,x.w'.cell? ⟨b,o0,none⟩=some v0)∧(∀ x:ChgSW S w,x.w'.cell? ⟨b,o1,none⟩=some v1)∧(∀ x:ChgSW S w,x.w'.cell? ⟨b,o2,none⟩=some v2):=⟨ChgSW.cell h.1 hn,ChgSW.cell h.2.1 hn,ChgSW.cell h.2.2 hn⟩
theorem ChgSW.c4 {S:Nat→Prop} {w:World} {b o0 o1 o2 o3:Nat} {v0 v1 v2 v3:Value} (h:w.cell? ⟨b,o0,none⟩=some v0∧w.cell? ⟨b,o1,none⟩=some v1∧w.cell? ⟨b,o2,none⟩=some v2∧w.cell? ⟨b,o3,none⟩=some v3) (hn:¬ S b):(∀ x:ChgSW S w,x.w'.cell? ⟨b,o0,none⟩=some v0)∧(∀ x:ChgSW S w,x.w'.cell? ⟨b,o1,none⟩=some v1)∧(∀ x:ChgSW S w,x.w'.cell? ⟨b,o2,none⟩=some v2)∧(∀ x:ChgSW S w,x.w'.cell? ⟨b,o3,none⟩=some v3):=⟨ChgSW.cell h.1 hn,ChgSW.cell h.2.1 hn,ChgSW.cell h.2.2.1 hn,ChgSW.cell h.2.2.2 hn⟩
theorem ChgSW.c5 {S:Nat→Prop} {w:World} {b o0 o1 o2 o3 o4:Nat} {v0 v1 v2 v3 v4:Value} (h:w.cell? ⟨b,o0,none⟩=some v0∧w.cell? ⟨b,o1,none⟩=some v1∧w.cell? ⟨b,o2,none⟩=some v2∧w.cell? ⟨b,o3,none⟩=some v3∧w.cell? ⟨b,o4,none⟩=some v4) (hn:¬ S b):(∀ x:ChgSW S w,x.w'.cell? ⟨b,o0,none⟩=some v0)∧(∀ x:ChgSW S w,x.w'.cell? ⟨b,o1,none⟩=some v1)∧(∀ x:ChgSW S w,x.w'.cell? ⟨b,o2,none⟩=some v2)∧(∀ x:ChgSW S w,x.w'.cell? ⟨b,o3,none⟩=some v3)∧(∀ x:ChgSW S w,x.w'.cell? ⟨b,o4,none⟩=some v4):=⟨ChgSW.cell h.1 hn,ChgSW.cell h.2.1 hn,ChgSW.cell h.2.2.1 hn,ChgSW.cell h.2.2.2.1 hn,ChgSW.cell h.2.2.2.2 hn⟩
theorem ChgSW.c10 {S:Nat→Prop} {w:World} {b o0 o1 o2 o3 o4 o5 o6 o7 o8 o9:Nat} {v0 v1 v2 v3 v4 v5 v6 v7 v8 v9:Value} (h:w.cell? ⟨b,o0,none⟩=some v0∧w.cell? ⟨b,o1,none⟩=some v1∧w.cell? ⟨b,o2,none⟩=some v2∧w.cell? ⟨b,o3,none⟩=some v3∧w.cell? ⟨b,o4,none⟩=some v4∧w.cell? ⟨b,o5,none⟩=some v5∧w.cell? ⟨b,o6,none⟩=some v6∧w.cell? ⟨b,o7,none⟩=some v7∧w.cell? ⟨b,o8,none⟩=some v8∧w.cell? ⟨b,o9,none⟩=some v9) (hn:¬ S b):(∀ x:ChgSW S w,x.w'.cell? ⟨b,o0,none⟩=some v0)∧(∀ x:ChgSW S w,x.w'.cell? ⟨b,o1,none⟩=some v1)∧(∀ x:ChgSW S w,x.w'.cell? ⟨b,o2,none⟩=some v2)∧(∀ x:ChgSW S w,x.w'.cell? ⟨b,o3,none⟩=some v3)∧(∀ x:ChgSW S w,x.w'.cell? ⟨b,o4,none⟩=some v4)∧(∀ x:ChgSW S w,x.w'.cell? ⟨b,o5,none⟩=some v5)∧(∀ x:ChgSW S w,x.w'.cell? ⟨b,o6,none⟩=some v6)∧(∀ x:ChgSW S w,x.w'.cell? ⟨b,o7,none⟩=some v7)∧(∀ x:ChgSW S w,x.w'.cell? ⟨b,o8,none⟩=some v8)∧(∀ x:ChgSW S w,x.w'.cell? ⟨b,o9,none⟩=some v9):=⟨ChgSW.cell h.1 hn,ChgSW.cell h.2.1 hn,ChgSW.cell h.2.2.1 hn,ChgSW.cell h.2.2.2.1 hn,ChgSW.cell h.2.2.2.2.1 hn,ChgSW.cell h.2.2.2.2.2.1 hn,ChgSW.cell h.2.2.2.2.2.2.1 hn,ChgSW.cell h.2.2.2.2.2.2.2.1 hn,ChgSW.cell h.2.2.2.2.2.2.2.2.1 hn,ChgSW.cell h.2.2.2.2.2.2.2.2.2 hn⟩
theorem ChgSW.c12 {S:Nat→Prop} {w:World} {b o0 o1 o2 o3 o4 o5 o6 o7 o8 o9 o10 o11:Nat} {v0 v1 v2 v3 v4 v5 v6 v7 v8 v9 v10 v11:Value} (h:w.cell? ⟨b,o0,none⟩=some v0∧w.cell? ⟨b,o1,none⟩=some v1∧w.cell? ⟨b,o2,none⟩=some v2∧w.cell? ⟨b,o3,none⟩=some v3∧w.cell? ⟨b,o4,none⟩=some v4∧w.cell? ⟨b,o5,none⟩=some v5∧w.cell? ⟨b,o6,none⟩=some v6∧w.cell? ⟨b,o7,none⟩=some v7∧w.cell? ⟨b,o8,none⟩=some v8∧w.cell? ⟨b,o9,none⟩=some v9∧w.cell? ⟨b,o10,none⟩=some v10∧w.cell? ⟨b,o11,none⟩=some v11) (hn:¬ S b):(∀ x:ChgSW S w,x.w'.cell? ⟨b,o0,none⟩=some v0)∧(∀ x:ChgSW S w,x.w'.cell? ⟨b,o1,none⟩=some v1)∧(∀ x:ChgSW S w,x.w'.cell? ⟨b,o2,none⟩=some v2)∧(∀ x:ChgSW S w,x.w'.cell? ⟨b,o3,none⟩=some v3)∧(∀ x:ChgSW S w,x.w'.cell? ⟨b,o4,none⟩=some v4)∧(∀ x:ChgSW S w,x.w'.cell? ⟨b,o5,none⟩=some v5)∧(∀ x:ChgSW S w,x.w'.cell? ⟨b,o6,none⟩=some v6)∧(∀ x:ChgSW S w,x.w'.cell? ⟨b,o7,none⟩=some v7)∧(∀ x:ChgSW S w,x.w'.cell? ⟨b,o8,none⟩=some v8)∧(∀ x:ChgSW S w,x.w'.cell? ⟨b,o9,none⟩=some v9)∧(∀ x:ChgSW S w,x.w'.cell? ⟨b,o10,none⟩=some v10)∧(∀ x:ChgSW S w,x.w'.cell? ⟨b,o11,none⟩=some v11):=⟨ChgSW.cell h.1 hn,ChgSW.cell h.2.1 hn,ChgSW.cell h.2.2.1 hn,ChgSW.cell h.2.2.2.1 hn,ChgSW.cell h.2.2.2.2.1 hn,ChgSW.cell h.2.2.2.2.2.1 hn,ChgSW.cell h.2.2.2.2.2.2.1 hn,ChgSW.cell h.2.2.2.2.2.2.2.1 hn,ChgSW.cell h.2.2.2.2.2.2.2.2.1 hn,ChgSW.cell h.2.2.2.2.2.2.2.2.2.1 hn,ChgSW.cell h.2.2.2.2.2.2.2.2.2.2.1 hn,ChgSW.cell h.2.2.2.2.2.2.2.2.2.2.2 hn⟩
theorem and255 (x:Int):0≤IntKind.wrap .i64 ((BitVec.ofInt 64 x &&& BitVec.ofInt 64 255).toNat:Int)∧IntKind.wrap .i64 ((BitVec.ofInt 64 x &&& BitVec.ofInt 64 255).toNat:Int)≤255:=by
 have h1:(BitVec.ofInt 64 x &&& BitVec.ofInt 64 255).toNat≤255:=by
  rw [BitVec.toNat_and];exact Ad Nat.and_le_right (by decide)
 generalize (BitVec.ofInt 64 x &&& BitVec.ofInt 64 255).toNat=n at *
 have:IntKind.wrap .i64 (n:Int)=n:=by
  unfold IntKind.wrap
  simp [IntKind.bits,IntKind.signed]
  omega
 omega
def Cur (g:Nat) (v:Value) (code:List Int) (w:World):Prop:=
  (∃ i h:Int,w.heap[g]?=some (.cells #[v,.int .i64 i,.int .i64 h] 114)∧0≤i∧i≤code.length)∧St g Rep.byte w v code∧∀ x∈code,U8 x
theorem Cur.ext {g:Nat} {v:Value} {code:List Int} {w w':World} (h:Cur g v code w) (c:Ext w w'):Cur g v code w':=by
 obtain⟨⟨i,hh,hb,r⟩,hs,hu⟩:=h;exact⟨⟨i,hh,c.block hb,r⟩,hs.ext c,hu⟩
theorem Cur.lt {g:Nat} {v:Value} {code:List Int} {w:World} (h:Cur g v code w):g<w.heap.size:=by
 obtain⟨⟨i,hh,hb,r⟩,hs,hu⟩:=h;exact blk_lt hb
theorem Cur.kept {g:Nat} {v:Value} {code:List Int} {w0 w w':World} {S:Nat→Prop} (h0:Cur g v code w0) (h:Cur g v code w) (c:Chg S w w') (hn:¬ S g) (cx:Chg (at1 g) w0 w'):Cur g v code w':=by
 obtain⟨⟨i,hh,hb,r⟩,hs,hu⟩:=h;exact⟨⟨i,hh,c.blkS hb hn,r⟩,h0.2.1.step cx,hu⟩
theorem ExtW.outD {w w1:World} (h:∃ x:ExtW w,w1=x.w'):Ext w w1:=by obtain⟨y,rfl⟩:=h;exact y.h
theorem Chg.setC {S:Nat→Prop} {a b:World} (h:Chg S a b) {p:Addr} (hp:S p.block) (u:Value):Chg S a (b.setCell p u):=
 h.trans ⟨rfl,rfl,rfl,by simp,fun k _ hn=>Below.heap_setCell _ _ _ _ (fun e=>hn (by rw [e];exact hp))⟩
theorem OwnF.at1 {α:Type} {n:Nat} {f:α→List Value} {base g:Nat} {e:TypeId} {w w':World} {v:Value} {l:List α} (h:OwnF f n base e w v l) (c:Chg (at1 g) w w') (hg:g<base):OwnF f n base e w' v l:=
 h.chg c (fun k hk e=>by have h1:=(h.block k hk).1;have h2:k=g:=e;omega)
theorem Chg.app {α:Type} {f:α→List Value} {n base g:Nat} {e:TypeId} {v:Value} {l:List α} {a b b' c:World} (h:Chg (at1 g) a b) (hg:b.grownBy c v.ownBlock) (ho:OwnF f n base e b' v l) (hb:a.heap.size≤base):Chg (at1 g) a c:=
 h.up (Bn (S:=fun k=>v.ownBlock=some k) hg (fun _ h=>h)) (fun k hk=>.inr (Ad hb (ho.block k hk).1))
theorem Cur.app {α:Type} {f:α→List Value} {n base g:Nat} {e:TypeId} {v cv:Value} {cd:List Int} {l:List α} {a b b' c:World} (h0:Cur g cv cd a) (h:Cur g cv cd b) (hg:b.grownBy c v.ownBlock) (ho:OwnF f n base e b' v l) (hb:a.heap.size≤base) (cx:Chg (at1 g) a b):Cur g cv cd c:=
 h0.kept h (Bn (S:=fun k=>v.ownBlock=some k) hg (fun _ h=>h)) (fun hk=>by have h1:=(ho.block g hk).1;have h2:=h0.lt;omega) (Chg.app cx hg ho hb)
theorem l_big (code:List Int) (v:Value) (w:World) (hr:RdS Rep.byte w v code) :
  Calls Tryz.prog 5 #[v] w fun e w'=>e=.returned (.bool (decide (1048576<code.length)))∧w=w':=by
 obtain⟨o,cap,rfl,hsm⟩:=hr.shape
 go_enter Tryz.func5,Tryz.ntmps5
 by_cases hb:1048576<code.length
 ·
  have h1:decide (1048576<(code.length:Int))=true:=by simp;omega
  have h2:decide (1048576<code.length)=true:=by simpa using hb
  have H2:=Ac h2;clear h2 hb
  go_wp2
  go_ret
  exact⟨Ah H2.out.symm,rfl⟩
 have h1:decide (1048576<(code.length:Int))=false:=by simp;omega
 have h2:decide (1048576<code.length)=false:=by simpa using hb
 have H2:=Ac h2;clear h2 hb
 go_wp2
 go_ret
 exact⟨Ah H2.out.symm,rfl⟩
theorem s_l1New (code:List Int) (v:Value) (w:World) (hr:RdS Rep.byte w v code) (hu:∀ x∈code,U8 x) (hl:code.length≤1048576) :
  Calls Tryz.prog 34 #[v] w fun e w'=>∃ g:Nat,e=.returned (.pointer (some ⟨g,0,none⟩))∧w.heap.size≤g∧Cur g v code w'∧Ext w w':=by
 obtain⟨o,cap,rfl,hsm⟩:=hr.shape
 go_enter Tryz.func34,Tryz.ntmps34
 go_wp2
 go_loopg [3,4] code.length (fun gk h i wr=>∃ (k:Nat) (hh:Int),gk+k=code.length∧i=.int .i64 k∧h=.int .i64 hh∧w=wr)
 case atStart=>exact⟨0,_,rfl,rfl,rfl,rfl⟩
 case round=>
  obtain⟨k,hh,hgk,rfl,rfl,rfl⟩:=hrel
  by_cases hlt:k<code.length
  ·
   obtain⟨b,off,rfl,hcell⟩:=bytes_at hr k hlt;have hg0:gk - 1+(k+1)=code.length∧gk - 1<gk:=by omega
   have HG:=Ac hg0;clear hg0 hgk
   by_cases h4:k<4000
   ·
    go_wp2_with fail
    go_roundg (gk - 1)
    case measure=>exact HG.out.2
    case rel=>exact⟨k+1,_,HG.out.1,by go_num,rfl,rfl⟩
   go_wp2_with fail
   go_ret
   refine⟨w.heap.size,rfl,Ae _,⟨⟨0,hh,blk_new _ _,by omega,by omega⟩,fun w2 c2=>?_,hu⟩,(Ab _).alloc _⟩;exact hr.ext (((Ab w).alloc _).ofCur c2 (Ae _))
  go_wp2_with fail
  go_ret
  refine⟨w.heap.size,rfl,Ae _,⟨⟨0,hh,blk_new _ _,by omega,by omega⟩,fun w2 c2=>?_,hu⟩,(Ab _).alloc _⟩;exact hr.ext (((Ab w).alloc _).ofCur c2 (Ae _))
theorem s_l1Byte (g:Nat) (v:Value) (code:List Int) (w:World) (hc:Cur g v code w) :
  Calls Tryz.prog 91 #[.pointer (some ⟨g,0,none⟩)] w fun e w'=>∃ r:Int,e=.returned (.int .i64 r)∧0≤r∧r≤255∧Cur g v code w'∧Chg (at1 g) w w':=by
 have hcur:=hc;obtain⟨⟨i,h,hb,hi0,hi1⟩,hs,hu⟩:=hc;obtain⟨o,cap,rfl,hsm⟩:=hs.rd.shape;have HB:=Ac hb;clear hb;have c1:=blk3 HB.out;have f2:=fr_of HB.out 2
 go_enter Tryz.func91,Tryz.ntmps91
 go_upto_region 1 with (fail)
 go_cut [] (fun wx=>∃ H:Int,wx.heap[g]?=some (.cells #[.slice o code.length cap,.int .i64 i,.int .i64 H] 114)∧Chg (at1 g) w wx)
 case first=>
  go_wp2_with fail
  go_meet
  exact⟨_,by simpa using blk_set HB.out 2 _,Chg.setC (S:=at1 g) (Bq _ _) (by exact rfl) _⟩
 case rest=>
 clear c1 f2;obtain⟨H,hb1,hx1⟩:=hcut
 obtain⟨w1,hw1⟩:∃ wA:World,wA=wc:=⟨_,rfl⟩
 subst hw1;have HB1:=Ac hb1;clear hb1;have c1:=blk3 HB1.out
 go_upto_region 2 with (fail)
 go_cut [3] (fun v3 wx=>∃ r:Int,v3=.int .i64 r∧0≤r∧r≤255∧Ext w1 wx)
 case first=>
  refine Al (by kernel_rfl) (by kernel_rfl) ?_;have q2:=Bd c1.2.2
  repeat (first | go_big_quiet_step (fail) | quiet_step (fail))
  refine wpQuiet_nil ?_;intro w3 hw3;have hz3:=ExtW.outD hw3;clear hw3 q2
  go_wp2_with fail
  go_meet
  exact⟨_,rfl,(and255 _).1,(and255 _).2,hz3⟩
 case rest=>
 obtain⟨r,rfl,hr0,hr1,hx2⟩:=hcut
 obtain⟨w2,hw2⟩:∃ wA:World,wA=wc:=⟨_,rfl⟩
 subst hw2;clear c1;have HB2:=Ac (hx2.block HB1.out);have c2:=blk3 HB2.out
 by_cases hlt:i<code.length
 ·
  obtain⟨k,rfl⟩:∃ k:Nat,i=k:=⟨i.toNat,by omega⟩
  have hkl:k<code.length:=by omega
  have hrd2:=(hs.step (hx1.ext hx2)).rd;obtain⟨b,off,rfl,hcell⟩:=bytes_at hrd2 k hkl;obtain⟨hu0,hu1⟩:=hu code[k] (List.getElem_mem _);have f1:=fr_of HB2.out 1
  go_wp2_with fail
  refine Al (by kernel_rfl) (by kernel_rfl) ?_;have q0:=Bd (c2.1);have q1:=Bd (c2.2.1)
  repeat (first | go_big_quiet_step (fail) | quiet_step (fail))
  refine wpQuiet_nil ?_;intro w4 hw4;have hz4:=ExtW.outD hw4;clear hw4 q0 q1;have c4:=blk3 (hz4.block HB2.out);have hcell4:=hz4.cell hcell;clear c2 hcell
  go_upto_region 4 with (fail)
  go_cut [3] (fun v3 wx=>∃ r:Int,v3=.int .i64 r∧0≤r∧r≤255∧Ext w4 wx)
  case first=>
   refine Al (by kernel_rfl) (by kernel_rfl) ?_;have q0:=Bd (c4.1);have q1:=Bd (c4.2.1);have q2:=Bd (hcell4)
   repeat (first | go_big_quiet_step (fail) | quiet_step (fail))
   refine wpQuiet_nil ?_;intro w5 hw5;have hz5:=ExtW.outD hw5;clear hw5 q0 q1 q2
   go_wp2_with fail
   go_meet
   exact⟨_,rfl,(and255 _).1,(and255 _).2,hz5⟩
  case rest=>
  obtain⟨r2,rfl,hr2,hr3,hx5⟩:=hcut
  obtain⟨w5,hw5⟩:∃ wA:World,wA=wc:=⟨_,rfl⟩
  subst hw5;clear c4 hcell4 hr0 hr1;have HB5:=Ac ((hz4.t hx5).block HB2.out);have c5:=blk3 HB5.out;have f5:=fr_of HB5.out 1;have hxx:Chg (at1 g) w w5:=hx1.ext (hx2.trans (hz4.t hx5))
  go_wp2_with fail
  go_ret
  refine⟨r2,rfl,hr2,hr3,⟨⟨(k:Int)+1,H,by simpa using blk_set HB5.out 1 _,by omega,by omega⟩,hs.step (Chg.setC (S:=at1 g) hxx (by exact rfl) _),hu⟩,Chg.setC (S:=at1 g) hxx (by exact rfl) _⟩
 go_wp2_with fail
 refine Al (by kernel_rfl) (by kernel_rfl) ?_;have q0:=Bd (c2.1);have q1:=Bd (c2.2.1)
 repeat (first | go_big_quiet_step (fail) | quiet_step (fail))
 refine wpQuiet_nil ?_;intro w4 hw4;have hz4:=ExtW.outD hw4;clear hw4 q0 q1;have hxx:Chg (at1 g) w w4:=hx1.ext (hx2.t hz4);have HB5:=Ac (hz4.block HB2.out);clear c2
 go_wp2_with fail
 go_ret
 exact⟨r,rfl,hr0,hr1,⟨⟨i,H,HB5.out,hi0,hi1⟩,hs.step hxx,hu⟩,hxx⟩
theorem s_l1Below (g:Nat) (n:Int) (v:Value) (code:List Int) (w:World) (hc:Cur g v code w) :
  Calls Tryz.prog 40 #[.pointer (some ⟨g,0,none⟩),.int .i64 n] w fun e w'=>∃ r:Int,e=.returned (.int .i64 r)∧0≤r∧(r<n∨r=0)∧Cur g v code w'∧Chg (at1 g) w w':=by
 by_cases h0:n≤0
 ·
  go_enter Tryz.func40,Tryz.ntmps40
  go_wp2_with fail
  go_ret
  exact⟨0,rfl,Int.le_refl _,.inr rfl,hc,Bq _ _⟩
 go_enter Tryz.func40,Tryz.ntmps40
 by_cases h1:n≤256
 ·
  go_wp2_with fail
  refine(s_l1Byte g v code _ hc).mono ?_;rintro e w1 ⟨x,rfl,hx0,hx1,hc1,hz1⟩
  go_wp2_with fail
  go_ret
  have hp:0<n:=by omega
  have hm1:=Int.emod_nonneg x (show n≠0 by omega);have hm2:=Int.emod_lt_of_pos x hp;exact⟨_,rfl,by first | exact hm1 | omega,.inl (by first | exact hm2 | omega),hc1,hz1⟩
 go_wp2_with fail
 refine(s_l1Byte g v code _ hc).mono ?_;rintro e w1 ⟨x,rfl,hx0,hx1,hc1,hz1⟩
 go_wp2_with fail
 refine(s_l1Byte g v code _ hc1).mono ?_;rintro e w2 ⟨y,rfl,hy0,hy1,hc2,hz2⟩
 go_wp2_with fail
 refine(s_l1Byte g v code _ hc2).mono ?_;rintro e w3 ⟨z,rfl,hu0,hu1,hc3,hz3⟩;have hp:0<n:=by omega
 have hm1:=Int.emod_nonneg (x * 65536+y * 256+z) (show n≠0 by omega);have hm2:=Int.emod_lt_of_pos (x * 65536+y * 256+z) hp;have HM:=Ac (And.intro hm1 hm2);clear hm1 hm2
 go_wp2_with fail
 go_ret
 exact⟨_,rfl,HM.out.1,.inl HM.out.2,hc3,(hz1.t hz2).t hz3⟩
theorem s_l1Once (g:Nat) (n:Int) (v:Value) (code:List Int) (w:World) (hc:Cur g v code w) :
  Calls Tryz.prog 37 #[.pointer (some ⟨g,0,none⟩),.int .i64 n] w fun e w'=>∃ b:Bool,e=.returned (.bool b)∧Cur g v code w'∧Chg (at1 g) w w':=by
 go_enter Tryz.func37,Tryz.ntmps37
 go_wp2_with fail
 refine(s_l1Below g n v code _ hc).mono ?_;rintro e w1 ⟨x,rfl,hx0,hx1,hc1,hz1⟩;clear hx1
 go_wp2_with fail
 go_ret
 exact⟨_,rfl,hc1,hz1⟩
theorem s_l1Int (g:Nat) (l:List Int) (v:Value) (code:List Int) (w:World) (hc:Cur g v code w) (hl:0<l.length) (hm:l.length≤1048576) :
  Calls Tryz.prog 85 #[.pointer (some ⟨g,0,none⟩),.slice (some ⟨w.heap.size,0,none⟩) l.length l.length] (w.alloc (.cells (l.flatMap intF).toArray 3)) fun e w'=>∃ r:Int,e=.returned (.int .i64 r)∧r∈l∧Cur g v code w'∧Chg (at1 g) w w':=by
 have ho:=OwnF.lit intFlen w.heap.size 3 w l (Ae _) (by unfold maxLen;omega);have hst:St g Rep.int _ _ l:=St.ofF (hf:=intFlen) ho hc.lt;have hca:=hc.ext ((Ab w).alloc (.cells (l.flatMap intF).toArray 3));have hxa:Chg (at1 g) w (w.alloc (.cells (l.flatMap intF).toArray 3)):=Ar ((Ab w).alloc _);generalize w.alloc (.cells (l.flatMap intF).toArray 3)=wa at *;clear ho;generalize w.heap.size=ga at *
 go_enter Tryz.func85,Tryz.ntmps85
 go_wp2_with fail
 refine(s_l1Below g l.length v code _ hca).mono ?_;rintro e w1 ⟨x,rfl,hx0,hx1,hc1,hz1⟩;obtain⟨k,rfl⟩:=Int.eq_ofNat_of_zero_le hx0;have hk:k<l.length:=by omega
 clear hx1;obtain⟨b,off,hbe,hcell⟩:=ints_at (hst.step hz1).rd k hk
 cases hbe
 rw [Nat.zero_add] at hcell
 go_wp2_with fail
 go_ret
 exact⟨_,rfl,List.getElem_mem hk,hc1,hxa.trans hz1⟩
theorem rs_set {w:World} {b:Nat} {x0 x1 x2 x3 x4:Value} {t:TypeId} (h:w.heap[b]?=some (.cells #[x0,x1,x2,x3,x4] t (0,0))) (y0 y1 y2 y3 y4:Value) :
  ∃ w5,w5=((((w.setCell ⟨b,0,none⟩ y0).setCell ⟨b,1,none⟩ y1).setCell ⟨b,2,none⟩ y2).setCell ⟨b,3,none⟩ y3).setCell ⟨b,4,none⟩ y4∧w5.heap[b]?=some (.cells #[y0,y1,y2,y3,y4] t (0,0))∧Chg (at1 b) w w5:=by
 refine⟨_,rfl,by simpa using blk_set (blk_set (blk_set (blk_set (blk_set h 0 y0) 1 y1) 2 y2) 3 y3) 4 y4,?_⟩;have q (o:Nat) (u:Value) {wq:World} (h:Chg (at1 b) w wq):=Chg.setC (S:=at1 b) (p:=⟨b,o,none⟩) h rfl u;exact q _ _ (q _ _ (q _ _ (q _ _ (q _ _ (Bq _ w)))))
theorem one_set {w:World} {b:Nat} {arr:Array Value} {t:TypeId} (h:w.heap[b]?=some (.cells arr t (0,0))) (o:Nat) (u:Value) :
  ∃ w5,w5=w.setCell ⟨b,o,none⟩ u∧w5.heap[b]?=some (.cells (arr.setIfInBounds o u) t (0,0))∧Chg (at1 b) w w5:=⟨_,rfl,blk_set h o u,Chg.setC (S:=at1 b) (p:=⟨b,o,none⟩) (Bq _ w) rfl u⟩
end
abbrev An := @Pkt.own_kept
abbrev As := @Pkt.own_rd0
abbrev At := @Pkt.own_rd1
abbrev Aw := @ChgSW.cell
abbrev Az := @Pkt.own_mono
abbrev Ba := @Pkt.own_ext
abbrev Bw := @Chg.setC
abbrev Cj := @ChgSW.c2
end Go.Proofs.YteodlcpeoaggbaaGreat
