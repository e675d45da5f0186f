/- What these laws need: FnOld, FnWalks: Appending to an empty literal row makes new memory or nothing. The data of traces, how they read, what they own, and the contracts of the laws' helper functions over them. Contract of turning a part around, reference. Rows that the call owns, by ranges of blocks, and rows that are only read from now on. A draw under way: its cursor, what has turned, and cells written in place. Appending to rows whose elements hold slices, where the row owns any set of blocks: one element, and a whole row. A region that draws its order, walked along one schedule: what only reads is taken as soon as it may come up, in a class of worlds; the last operations, which all others are ahead of, may leave that class. Draws of numbers: no more is said of them than their bounds. Contracts of the functions that encode numbers, program and reference. Ownership of a topology and its marks. -/
import Derived.ArgAppend
import Derived.Test.YteodlcpeoaggbaaGreatKV4
namespace Go.Proofs.YteodlcpeoaggbaaGreat
section
open Go.ChangeShapes Go.WideShapes Go.ChangeAt Go.RowKit Go.Deep
set_option maxHeartbeats 2000000
section
variable {P : Program} {w : World} {ops : Array Oper} {rest : List Oper} {o : Oper} {a : Act} {Q : Exit → Act → World → Prop}
theorem appE {t e:TypeId} {n bytes:Nat} (E:Elem P t e n bytes) {α:Type} {f:α→List Value} (hf:∀ a,(f a).length=n) (h1:∀ b,∀ u∈f b,u.oneCell'=true) (hgd:o.guard=none) (s x:Operand)
  (ho:o.op=.call { callee:=.builtin .append,args:=#[s,x],argTypes:=#[t,t] }) {base g:Nat} {vs:Value} (src:List α) (hs:a.eval s=.slice (some ⟨g,0,none⟩) 0 0) (hown:OwnF f n base e w (.slice (some ⟨g,0,none⟩) 0 0) [])
  (hx:a.eval x=vs) (hsrc:RdS (Rep.flat n f hf) w vs src) (hl:src.length * bytes≤140737488355328) (hm:src.length≤maxLen) (hbase:base≤w.heap.size)
  (h:∀ v' w',OwnF f n base e w' v' src→Ext w w'→wpList P ops Q rest (a.put o.dst v') w'):wpList P ops Q (o :: rest) a w:=by
 obtain⟨oa,cap,rfl,hc1,hc2,hn0,hel⟩:=hsrc
 cases oa with
 | none =>
  have hnil:src=[]:=by
   cases src with
   | nil => rfl
   | cons b src => obtain ⟨_, _, _, he, _⟩ := hel 0 (by simp); cases he
  subst hnil;obtain rfl:=hn0 rfl;refine wpList_append_own_none hgd s x t ho base e E.i n E.ht E.hi _ 0 [] hs hown hx ?_;exact h _ w hown (Ab _)
 | some ad =>
  refine wpList_append_arg w hgd s x t ho e E.i E.z n bytes E.ht E.hi E.hz E.hsize E.hby E.hzs E.hpos g 0 0 0 [] hs (by simp) (by simp) ad src.length cap (src.flatMap f) hx (flatMap_len hf src) ?_ ?_ ?_ (by simpa using hm) (by simpa using hl) ?_ ?_
  ·
   intro j u hu;have hjl:j<src.length * n:=by rw [← flatMap_len hf src];exact(List.getElem?_eq_some_iff.1 hu).1
   have hk:j / n<src.length:=by rw [Nat.div_lt_iff_lt_mul E.hpos];exact hjl
   have hr:=Nat.mod_lt j E.hpos;obtain⟨b,off,cs,hb,hcell,rfl⟩:=hel (j / n) hk
   cases hb
   have hfm:=flatMap_at hf src (j / n) hk (j % n) hr;have hdm:j / n * n+j % n=j:=by rw [Nat.mul_comm];exact Nat.div_add_mod j n
   rw [hdm,hu] at hfm;have:=hcell (j % n) u hfm.symm;have hadd:(⟨b,off,none⟩:Addr).add j=⟨b,off+j,none⟩:=by unfold Addr.add;split <;> simp_all
   rw [hadd];rw [← this]
   show _=w.cell? ⟨b,off+j / n * n+j % n,none⟩
   rw [Nat.add_assoc,hdm]
  ·
   intro u hu;obtain⟨b,_,hb⟩:=List.mem_flatMap.1 hu;exact h1 b u hb
  ·
   intro hr j hj;rw [flatMap_len hf] at hj;have:src.length=0:=by omega
   rw [this] at hj;omega
  ·
   intro hr;have h0:src=[]:=List.eq_nil_of_length_eq_zero (by omega);subst h0;exact h _ w hown (Ab _)
  intro hr v' w' o' g';refine h v' w' ?_ (Ext.grownNone (Ab _) g')
  have o2:OwnF f n w.heap.size e w' v' src:=by
   unfold OwnF
   simpa using o'
  exact o2.mono hbase
end
theorem blk12 {w:World} {b:Nat} {x0 x1 x2 x3 x4 x5 x6 x7 x8 x9 x10 x11:Value} {t:TypeId} {f:Nat×Nat} (h:w.heap[b]?=some (.cells #[x0,x1,x2,x3,x4,x5,x6,x7,x8,x9,x10,x11] t f)) :
  w.cell? ⟨b,0,none⟩=some x0∧w.cell? ⟨b,1,none⟩=some x1∧w.cell? ⟨b,2,none⟩=some x2∧w.cell? ⟨b,3,none⟩=some x3∧w.cell? ⟨b,4,none⟩=some x4∧w.cell? ⟨b,5,none⟩=some x5∧w.cell? ⟨b,6,none⟩=some x6∧w.cell? ⟨b,7,none⟩=some x7∧w.cell? ⟨b,8,none⟩=some x8∧w.cell? ⟨b,9,none⟩=some x9∧w.cell? ⟨b,10,none⟩=some x10∧w.cell? ⟨b,11,none⟩=some x11:=
 ⟨Bt h 0,Bt h 1,Bt h 2,Bt h 3,Bt h 4,Bt h 5,Bt h 6,Bt h 7,Bt h 8,Bt h 9,Bt h 10,Bt h 11⟩
structure Trc where
  code:Int
  steps:List Step
  pkt:Pkt
  deriving DecidableEq
def Trc.size (x:Trc):Nat:=x.steps.length+x.pkt.size
def Trc.rep:Rep Trc where
  cells:=12
  rd w cs x:=∃ v0 v1 v2,cs=[.int .i64 x.code,v0,.int .i64 x.pkt.kind,.int .i64 x.pkt.src,.int .i64 x.pkt.dst,v1,.int .i64 x.pkt.pi,.int .i64 x.pkt.hi,.int .i64 x.pkt.beta,.int .i64 x.pkt.rid,.int .i64 x.pkt.seq,v2]∧RdS Step.rep w v0 x.steps∧RdS Part.rep w v1 x.pkt.path.parts∧RdS Rep.byte w v2 x.pkt.pay
  len:=by rintro w cs a ⟨v0,v1,v2,rfl,_⟩;rfl
  ext:=by rintro w w' cs a e ⟨v0,v1,v2,rfl,h0,h1,h2⟩;exact⟨v0,v1,v2,rfl,h0.ext e,h1.ext e,h2.ext e⟩
def Trc.ok (x:Trc):Prop:=I64 x.code∧(∀ y∈x.steps,Step.ok y)∧x.pkt.ok
def stepOwn:Own Step:=Own.flat Step.f 3 Bu 79
def Trc.own (S:Nat→Prop) (w:World) (h0 h1 h2:Value) (x:Trc):Prop:=
  ∃ S0 S1:Nat→Prop,stepOwn.own S0 w h0 x.steps∧Pkt.own S1 w h1 h2 x.pkt∧(∀ b,S0 b→S b)∧(∀ b,S1 b→S b)∧∀ b,S0 b→¬ S1 b
theorem Trc.own_kept {S T:Nat→Prop} {w w':World} {h0 h1 h2:Value} {x:Trc} (h:Trc.own S w h0 h1 h2 x) (c:Chg T w w') (hs:∀ b,S b→¬ T b):Trc.own S w' h0 h1 h2 x:=by
 obtain⟨S0,S1,a,b,c0,c1,d⟩:=h;exact⟨S0,S1,stepOwn.kept a c (fun k hk=>hs k (c0 k hk)),An b c (fun k hk=>hs k (c1 k hk)),c0,c1,d⟩
theorem Trc.own_ext {S:Nat→Prop} {w w':World} {h0 h1 h2:Value} {x:Trc} (h:Trc.own S w h0 h1 h2 x) (e:Ext w w'):Trc.own S w' h0 h1 h2 x:=
 Trc.own_kept h (Ar (S:=noB) e) (fun _ _ h=>h)
theorem Trc.own_mono {S T:Nat→Prop} {w:World} {h0 h1 h2:Value} {x:Trc} (h:Trc.own S w h0 h1 h2 x) (hs:∀ b,S b→T b):Trc.own T w h0 h1 h2 x:=by
 obtain⟨S0,S1,a,b,c0,c1,d⟩:=h;exact⟨S0,S1,a,b,fun k hk=>hs k (c0 k hk),fun k hk=>hs k (c1 k hk),d⟩
theorem Trc.own_rd0 {S:Nat→Prop} {w:World} {h0 h1 h2:Value} {x:Trc} (h:Trc.own S w h0 h1 h2 x):RdS Step.rep w h0 x.steps:=by
 obtain⟨S0,S1,a,_⟩:=h;exact stepOwn.rd a
theorem Trc.own_rd1 {S:Nat→Prop} {w:World} {h0 h1 h2:Value} {x:Trc} (h:Trc.own S w h0 h1 h2 x):RdS Part.rep w h1 x.pkt.path.parts:=by
 obtain⟨S0,S1,_,b,_⟩:=h;exact As b
theorem Trc.own_rd2 {S:Nat→Prop} {w:World} {h0 h1 h2:Value} {x:Trc} (h:Trc.own S w h0 h1 h2 x):RdS Rep.byte w h2 x.pkt.pay:=by
 obtain⟨S0,S1,_,b,_⟩:=h;exact At b
theorem blk_set4 {w:World} {b:Nat} {x0 x1 x2 x3:Value} {t:TypeId} {f:Nat×Nat} (h:w.heap[b]?=some (.cells #[x0,x1,x2,x3] t f)) (y0 y1 y2 y3:Value) :
  ((((w.setCell ⟨b,0,none⟩ y0).setCell ⟨b,1,none⟩ y1).setCell ⟨b,2,none⟩ y2).setCell ⟨b,3,none⟩ y3).heap[b]?=some (.cells #[y0,y1,y2,y3] t f):=by
 have:=blk_set (blk_set (blk_set (blk_set h 0 y0) 1 y1) 2 y2) 3 y3
 simpa using this
theorem ext_set4 {a w:World} (h:Ext a w) {b:Nat} (hb:a.heap.size≤b) (y0 y1 y2 y3:Value):Ext a ((((w.setCell ⟨b,0,none⟩ y0).setCell ⟨b,1,none⟩ y1).setCell ⟨b,2,none⟩ y2).setCell ⟨b,3,none⟩ y3):=
 (((h.setCell hb _).setCell hb _).setCell hb _).setCell hb _
section
variable {α : Type} {O : Own α} {a b : Nat} {w w' : World} {v : Value} {l : List α}
theorem Own.at1g {g:Nat} (h:O.own (rng a b) w v l) (c:Chg (at1 g) w w') (hg:g<a∨b≤g):O.own (rng a b) w' v l:=
 O.kept h c (fun k hk e=>by have e':k=g:=e;have h1:=hk.1;have h2:=hk.2;omega)
theorem Own.lo {a':Nat} (h:O.own (rng a b) w v l) (ha:a'≤a):O.own (rng a' b) w v l:=O.mono h (fun _ hk=>⟨Ad ha hk.1,hk.2⟩)
theorem Own.upTo {c:Nat} (h:O.own (rng a b) w v l) (hc:w.heap.size≤c):O.own (rng a c) w v l:=O.mono (O.inb h) (fun _ hk=>⟨hk.1.1,Ak hk.2 hc⟩)
theorem Own.chgR {S:Nat→Prop} (h:O.own (rng a b) w v l) (c:Chg S w w') (hs:∀ k,S k→k<a∨b≤k):O.own (rng a b) w' v l:=
 O.kept h c (fun k hk e=>by have h1:=hk.1;have h2:=hk.2;have:=hs k e;omega)
end
def Own.keep {α:Type} (r:Rep α):Own α where
  rep:=r
  own S w v l:=∀ w',Chg (fun b=>¬ S b) w w'→RdS r w' v l
  rd h:=h _ (Bq _ _)
  mono h hs:=fun w' c=>h w' (c.mono (fun _ hk hS=>hk (hs _ hS)))
  kept h c hs:=fun w2 c2=>h w2 ((c.mono (fun b hb hS=>hs b hS hb)).trans c2)
  nil _:=fun w' _=>RdS.nil _ w'
  inb h:=fun w' c=>h w' ⟨c.os,c.tape,c.output,c.size,fun k hk hn=>c.block k hk (fun hh=>hn (fun hS=>hh ⟨hS,hk⟩))⟩
theorem Own.toKeep {α:Type} {O:Own α} {S:Nat→Prop} {w:World} {v:Value} {l:List α} (h:O.own S w v l):(Own.keep O.rep).own S w v l:=fun _ c=>O.rd (O.kept h c (fun _ hb hn=>hn hb))
theorem Own.ofFr {α:Type} {f:α→List Value} {n:Nat} {hf:∀ a,(f a).length=n} {e:TypeId} {base m:Nat} {w:World} {v:Value} {l:List α} (h:OwnF f n base e w v l) (hm:w.heap.size≤m):(Own.flat f n hf e).own (rng base m) w v l:=
 Own.mono _ (Own.ofF h) (fun _ hk=>⟨hk.1,Ak hk.2 hm⟩)
section
variable {α β : Type} {n : Nat} {c : α → Value → List Value} {hc : ∀ a v, (c a v).length = n} {sub : α → List β} {e : TypeId} {I : Own β}
theorem nest_lit {w:World} (qs:List (Cap α)) (lo:Nat) (hlo:lo≤w.heap.size) (hm:qs.length≤maxLen)
  (hq:∀ q∈qs,I.own q.set w q.val (sub q.dat)∧∀ b,q.set b→lo≤b∧b<w.heap.size) (hd:∀ (i j:Nat) (hi:i<qs.length) (hj:j<qs.length),i≠j→∀ b,qs[i].set b→¬ qs[j].set b) :
  (Own.nest n c hc sub e I).own (rng lo (w.heap.size+1)) (w.alloc (.cells (qs.flatMap (capF c)).toArray e)) (.slice (some ⟨w.heap.size,0,none⟩) qs.length qs.length) (qs.map (·.dat)):=by
 have ho:=OwnF.lit (f:=capF c) (n:=n) (fun q=>hc q.dat q.val) 0 e w qs (Nat.zero_le _) hm;refine⟨qs,rfl,ho,fun k hk=>?_,fun q h=>⟨Aj (hq q h).1 ((Ab w).alloc _),fun b hb=>?_⟩,hd⟩
 ·
  cases hk;exact⟨hlo,Nat.lt_succ_self _⟩
 obtain⟨h1,h2⟩:=(hq q h).2 b hb;refine⟨⟨h1,by omega⟩,fun e=>?_,by simp;omega⟩;have:w.heap.size=b:=by simpa [Value.ownBlock] using e
 omega
end
def KS {α:Type} (S:Nat→Prop) (r:Rep α) (w:World) (v:Value) (l:List α):Prop:=∀ w',Chg S w w'→RdS r w' v l
theorem KS.rd {α:Type} {S:Nat→Prop} {r:Rep α} {w:World} {v:Value} {l:List α} (h:KS S r w v l):RdS r w v l:=h w (Bq _ _)
theorem KS.step {α:Type} {S T:Nat→Prop} {r:Rep α} {w w':World} {v:Value} {l:List α} (h:KS S r w v l) (c:Chg T w w') (hs:∀ b,T b→S b):KS S r w' v l:=fun w2 c2=>h w2 ((c.mono hs).trans c2)
theorem KS.ext {α:Type} {S:Nat→Prop} {r:Rep α} {w w':World} {v:Value} {l:List α} (h:KS S r w v l) (c:Ext w w'):KS S r w' v l:=fun w2 c2=>h w2 ((Ar c).trans c2)
theorem KS.wide {α:Type} {S T:Nat→Prop} {r:Rep α} {w:World} {v:Value} {l:List α} (h:KS S r w v l) (hs:∀ b,T b→S b∨w.heap.size≤b):KS T r w v l:=
 fun w2 c=>h w2 ⟨c.os,c.tape,c.output,c.size,fun k hk hn=>c.block k hk (fun ht=>by rcases hs k ht with h1 | h1;exact hn h1;omega)⟩
theorem KS.ofF {α:Type} {n:Nat} {f:α→List Value} {hf:∀ a,(f a).length=n} {base:Nat} {e:TypeId} {w:World} {v:Value} {l:List α} {T:Nat→Prop} (h:OwnF f n base e w v l) (hs:∀ b,T b→b<base∨w.heap.size≤b):KS T (Rep.flat n f hf) w v l:=
 fun _ c=>Bb (h.chg c (fun k hk e=>by have h1:=(h.block k hk).1;have h2:=(h.block k hk).2;rcases hs k e with h3 | h3 <;> omega))
theorem KS.st {α:Type} {S:Nat→Prop} {r:Rep α} {g:Nat} {w:World} {v:Value} {l:List α} (h:KS S r w v l) (hg:S g):St g r w v l:=fun w' c=>h w' (c.mono (fun b hb=>by have e:b=g:=hb;rw [e];exact hg))
theorem two_set {w:World} {b:Nat} {x0 x1:Value} {t:TypeId} (h:w.heap[b]?=some (.cells #[x0,x1] t (0,0))) (y0 y1:Value) :
  ∃ w5,w5=(w.setCell ⟨b,0,none⟩ y0).setCell ⟨b,1,none⟩ y1∧w5.heap[b]?=some (.cells #[y0,y1] t (0,0))∧Chg (at1 b) w w5:=
 ⟨_,rfl,by simpa using blk_set (blk_set h 0 y0) 1 y1,Bw (S:=at1 b) (p:=⟨b,1,none⟩) (Bw (S:=at1 b) (p:=⟨b,0,none⟩) (Bq _ _) rfl y0) rfl y1⟩
theorem three_set {w:World} {b:Nat} {x0 x1 x2:Value} {t:TypeId} (h:w.heap[b]?=some (.cells #[x0,x1,x2] t (0,0))) (y0 y1 y2:Value) :
  ∃ w5,w5=((w.setCell ⟨b,0,none⟩ y0).setCell ⟨b,1,none⟩ y1).setCell ⟨b,2,none⟩ y2∧w5.heap[b]?=some (.cells #[y0,y1,y2] t (0,0))∧Chg (at1 b) w w5:=
 ⟨_,rfl,blk_set3 h y0 y1 y2,Bw (S:=at1 b) (p:=⟨b,2,none⟩) (Bw (S:=at1 b) (p:=⟨b,1,none⟩) (Bw (S:=at1 b) (p:=⟨b,0,none⟩) (Bq _ _) rfl y0) rfl y1) rfl y2⟩
structure DSt (g : Nat) (cv : Value) (cd : List Int) (w wr : World) : Prop where
  c:Cur g cv cd wr
  x:Chg (at1 g) w wr
  c0:Cur g cv cd w
theorem DSt.draw {g:Nat} {cv:Value} {cd:List Int} {w wr w':World} (s:DSt g cv cd w wr) (hc:Cur g cv cd w') (hx:Chg (at1 g) wr w'):DSt g cv cd w w':=⟨hc,s.x.trans hx,s.c0⟩
theorem DSt.ext {g:Nat} {cv:Value} {cd:List Int} {w wr w':World} (s:DSt g cv cd w wr) (hx:Ext wr w'):DSt g cv cd w w':=⟨s.c.ext hx,s.x.ext hx,s.c0⟩
theorem DSt.put {g:Nat} {cv:Value} {cd:List Int} {w wr w':World} (s:DSt g cv cd w wr) {S:Nat→Prop} (hx:Chg S wr w') (hS:∀ k,S k→w.heap.size≤k):DSt g cv cd w w':=by
 have hup:=Chg.up s.x hx (fun i hi=>.inr (hS i hi));exact⟨Cur.kept s.c0 s.c hx (fun h=>by have h1:=hS _ h;have h2:=s.c0.lt;omega) hup,hup,s.c0⟩
section
variable {P : Program} {w : World} {ops : Array Oper} {rest : List Oper} {o : Oper} {a : Act} {Q : Exit → Act → World → Prop}
variable {α β : Type} {n : Nat} {c : α → Value → List Value} {hc : ∀ a v, (c a v).length = n} {sub : α → List β} {e : TypeId} {I : Own β}
theorem appG {t:TypeId} {bytes:Nat} {S:Nat→Prop} (E:Elem P t e n bytes) (hgd:o.guard=none) (s x:Operand)
  (ho:o.op=.call { callee:=.builtin .append,args:=#[s,x],argTypes:=#[t,t] }) {w0:World} {v:Value} {l:List α} (b:α) (hv:Value) (T:Nat→Prop)
  (h1:∀ u∈c b hv,u.oneCell'=true) (hs:a.eval s=v) (hown:(Own.nest n c hc sub e I).own S w0 v l) (hx0:Ext w0 w) (hi:I.own T w hv (sub b)) (hT:∀ q,T q→w0.heap.size≤q∧q<w.heap.size)
  {g cp:Nat} (hx:a.eval x=.slice (some ⟨g,0,none⟩) 1 cp) (hnews:∀ j u,(c b hv)[j]?=some u→w.cell? ⟨g,j,none⟩=some u)
  (hl:(l.length+1) * bytes≤140737488355328) (hm:l.length+1≤maxLen)
  (h:∀ v' w',(Own.nest n c hc sub e I).own (fun q=>S q∨(w0.heap.size≤q∧q<w'.heap.size)) w' v' (l ++ [b])→w.grownBy w' v.ownBlock→(∀ q,v.ownBlock=some q→S q)→wpList P ops Q rest (a.put o.dst v') w'):wpList P ops Q (o :: rest) a w:=by
 obtain⟨qs,hq,hoq,hS,hqq,hd⟩:=hown;have hlq:qs.length=l.length:=by rw [← hq,List.length_map]
 refine app1p E (f:=capF c) (fun q:Cap α=>hc q.dat q.val) hgd s x ho (⟨b,hv,T⟩:Cap α) h1 hs (hoq.ext hx0) hx hnews (by rw [hlq];exact hl) (by rw [hlq];exact hm) (Nat.zero_le _) ?_;intro v' w' ho' hg hat;refine h v' w' ?_ hg hS;refine nest_push (S:=S) (T:=T) qs b hv hq hS hqq hd (fun k hk=>(hoq.block k hk).2) hx0 hi (fun q hTq=>⟨.inr ⟨(hT q hTq).1,Ak (hT q hTq).2 hg.size⟩,(hT q hTq).1,(hT q hTq).2⟩) (fun q hq=>.inl hq) hg ?_ ho'
 rcases hat with h2 | h2
 ·
  exact .inl h2
 exact .inr ⟨_,h2,Ae _,.inr ⟨hx0.size,(ho'.block _ h2).2⟩⟩
end
section
variable {P : Program} {ops : Array Oper} {Q : Exit → Act → World → Prop} {C : World → Prop}
def wpAnyX (P:Program) (ops:Array Oper) (Q:Exit→Act→World→Prop) (C:World→Prop) (X:Nat→Bool):Nat→Array Bool→Act→World→Prop
  | 0, listed, a, w => Region.ready .any ops listed = [] ∧ Q .normal a w
  | fuel + 1, listed, a, w =>
    (Region.ready .any ops listed=[]→Q .normal a w) ∧
    ∀ i∈Region.ready .any ops listed,wpOp P ops Q i (fun a' w'=>(X i=false→C w')∧wpAnyX P ops Q C X fuel (listed.setIfInBounds i true) a' w') a w
theorem wpAny_of_X {X:Nat→Bool}:∀ (fuel:Nat) (listed:Array Bool) (a:Act) (w:World),wpAnyX P ops Q C X fuel listed a w→wpAny P .any ops Q fuel listed a w
 | 0, _, _, _, h => h
 | fuel + 1, _, _, _, h => ⟨h.1, fun i hi => wpOp_mono (fun a' w' h' => wpAny_of_X fuel _ a' w' h'.2) (h.2 i hi)⟩
theorem wpAnyX_first {X:Nat→Bool} {i:Nat} {oi:Oper} {v:Value} {n:Nat} (hi:ops[i]?=some oi) (hsel:∀ (j:Nat) (o:Oper) cs b,ops[j]?=some o→o.op≠.select cs b)
  (hQ:∀ c a w,Q (.panic c) (a.put oi.dst v) w→Q (.panic c) a w) :
  ∀ (fuel:Nat) (listed:Array Bool) (a:Act) (w:World),Closed ops listed →
   (∀ j oj,ops[j]?=some oj→j≠i→listed.getD j true=false→(∀ e∈oj.after,Region.binds .any e=true→e.on≠i)→oi.apart ops oj=true) →
   (∀ j oj,ops[j]?=some oj→j≠i→listed.getD j true=false→X j=false∨waitsT ops n j i=true) →
   i∈Region.ready .any ops listed→YieldsIf P ops C oi v a→C w →
   wpAnyX P ops Q C X fuel (listed.setIfInBounds i true) (a.put oi.dst v) w→wpAnyX P ops Q C X (fuel+1) listed a w:=by
 intro fuel
 induction fuel with
 | zero =>
  intro listed a w _ _ _ hr hy hC H;refine⟨fun h=>(by rw [h] at hr;cases hr),fun j hj=>?_⟩
  by_cases hji:j=i
  ·
   subst hji;exact hy.wpOp hi hC ⟨fun _=>hC,H⟩
  have:=ready_mono hj hji;rw [H.1] at this
  cases this
 | succ fuel ih =>
  intro listed a w hc hfree hX hr hy hC H;refine⟨fun h=>(by rw [h] at hr;cases hr),fun j hj=>?_⟩
  by_cases hji:j=i
  ·
   subst hji;exact hy.wpOp hi hC ⟨fun _=>hC,H⟩
  have h1:=H.2 j (ready_mono hj hji);obtain⟨hjun,oj,hoj,hall⟩:=mem_ready.1 hj;have h0:=(mem_ready.1 hr).1
  have hXj:X j=false:=by
   rcases hX j oj hoj hji hjun with h4 | h4
   ·
    exact h4
   exact absurd hj (hc.not_ready h4 h0)
  have hnot:∀ e∈oj.after,Region.binds .any e=true→e.on≠i:=fun e he hb heq=>by
   have h1:=hall e he hb;rw [heq] at h1
   rcases Nat.lt_or_ge i listed.size with h' | h'
   ·
    simp [h'] at h0 h1;rw [h0] at h1;cases h1
   simp [Array.getElem?_eq_none h'] at h1
  have h2:=wpOp_putIf hoj (hfree j oj hoj hji hjun hnot) (fun cs b=>hsel i oi cs b hi) (fun cs b=>hsel j oj cs b hoj) hQ hy h1
  have hstep:∀ k,(listed.setIfInBounds j true).getD k true=false→listed.getD k true=false:=fun k hun=>by
   by_cases hjk:j=k
   ·
    subst hjk;exact hjun
   rw [getD_set_ne true hjk] at hun;exact hun
  refine wpOp_mono (fun a' w' h3=>⟨h3.2.1,ih (listed.setIfInBounds j true) a' w' (hc.set hj) (fun k ok hk hki hun hno=>hfree k ok hk hki (hstep k hun) hno) (fun k ok hok hk hun=>hX k ok hok hk (hstep k hun)) (ready_mono hr (Ne.symm hji)) h3.1 (h3.2.1 hXj) ?_⟩) h2;rw [Array.setIfInBounds_comm _ _ hji];exact h3.2.2
theorem wpAnyX_done {X:Nat→Bool} {listed:Array Bool} {a:Act} {w:World} (hr:Region.ready .any ops listed=[]) (h:Q .normal a w):∀ fuel,wpAnyX P ops Q C X fuel listed a w
 | 0 => ⟨hr, h⟩
 | _ + 1 => ⟨fun _ => h, by rw [hr]; simp⟩
def lastX (ops:Array Oper):List Nat→Array Bool→Bool
  | [], listed => (Region.ready .any ops listed).isEmpty
  | i :: l, listed => (Region.ready .any ops listed == [i]) && lastX ops l (listed.setIfInBounds i true)
def plainX (ops:Array Oper) (xs:List Nat) (listed:Array Bool) (i:Nat):Bool:=(List.range ops.size).all fun j=>j == i || listed.getD j true || !xs.contains j || waitsT ops ops.size j i
def schedX (ops:Array Oper) (xs:List Nat):List (Nat×Bool)→Array Bool→Bool
  | [], listed => lastX ops xs listed
  | (i, true) :: rest, listed => ((ops[i]?).map fun o => plainOp o.op).getD false && (Region.ready .any ops listed).contains i && Region.free .any ops listed i && plainX ops xs listed i && schedX ops xs rest (listed.setIfInBounds i true)
  | (i, false) :: rest, listed => (Region.ready .any ops listed == [i]) && !xs.contains i && schedX ops xs rest (listed.setIfInBounds i true)
def wpSchedX (P:Program) (ops:Array Oper) (Q:Exit→Act→World→Prop) (C:World→Prop) (xs:List Nat):List (Oper×Bool)→Act→World→Prop
  | [], a, w => wpList P ops Q (pickOps ops xs) a w
  | (o, true) :: rest, a, w => if Region.wanted o (yielded ops a.tmps) then o.quiet P a C (fun a' => wpSchedX P ops Q C xs rest a' w) else wpSchedX P ops Q C xs rest (a.put o.dst undef) w
  | (o, false) :: rest, a, w => wpList P ops (Exit.then (fun a' w' => C w' ∧ wpSchedX P ops Q C xs rest a' w') Q) [o] a w
theorem wpList_op {o:Oper} {l:List Oper} {a:Act} {w:World} {i:Nat} (ho:ops[i]?=some o) (h:wpList P ops Q (o :: l) a w):wpOp P ops Q i (fun a' w'=>wpList P ops Q l a' w') a w:=by
 unfold wpOp;simp only [ho];simp only [wpList] at h;exact h
theorem wpAnyX_last {X:Nat→Bool} (hX:∀ i,X i=false→C=C) (hall:∀ i w,X i=true→(X i=false→C w)) :
  ∀ (xs:List Nat) (fuel:Nat) (listed:Array Bool) (a:Act) (w:World),(∀ i∈xs,X i=true)→xs.length≤fuel→lastX ops xs listed=true→wpList P ops Q (pickOps ops xs) a w→wpAnyX P ops Q C X fuel listed a w
 | [], fuel, listed, a, w, _, _, hB, h => wpAnyX_done (by simpa [lastX] using hB) (by simpa [pickOps, wpList] using h) fuel
 | i :: l, 0, _, _, _, _, hf, _, _ => absurd hf (by simp)
 | i :: l, fuel + 1, listed, a, w, hx, hf, hB, h => by
  simp only [lastX,Bool.and_eq_true] at hB;obtain⟨hr,hB'⟩:=hB;have hr':Region.ready .any ops listed=[i]:=by simpa using hr
  have hm:i∈Region.ready .any ops listed:=by rw [hr'];simp
  obtain⟨_,oi,hoi,_⟩:=mem_ready.1 hm;refine⟨fun h0=>absurd (hr' ▸ h0) (by simp),fun j hj=>?_⟩;obtain rfl:j=i:=by rw [hr'] at hj;simpa using hj
  have hp:pickOps ops (j :: l)=oi :: pickOps ops l:=by simp [pickOps,hoi]
  rw [hp] at h;exact wpOp_mono (fun a' w' hh=>⟨hall j w' (hx j (by simp)),wpAnyX_last hX hall l fuel _ a' w' (fun k hk=>hx k (by simp [hk])) (by simpa using hf) hB' hh⟩) (wpList_op hoi h)
theorem wpAnyX_sched (hs:Region.noSelect ops=true) (hQ:∀ c (a:Act) d v w,Q (.panic c) (a.put d v) w→Q (.panic c) a w) (xs:List Nat) :
  ∀ (l:List (Nat×Bool)) (fuel:Nat) (listed:Array Bool) (a:Act) (w:World),l.length+xs.length≤fuel→Closed ops listed→schedX ops xs l listed=true→C w→wpSchedX P ops Q C xs (schedOps ops l) a w→wpAnyX P ops Q C (fun j=>xs.contains j) fuel listed a w
 | [], fuel, listed, a, w, hf, _, hB, _, h => wpAnyX_last (fun _ _ => rfl) (fun i _ h1 h2 => by rw [h1] at h2; cases h2) xs fuel listed a w (fun i hi => by simpa using hi) (by simpa using hf) hB h
 | (i, t) :: rest, 0, _, _, _, hf, _, _, _, _ => absurd hf (by simp)
 | (i, true) :: rest, fuel + 1, listed, a, w, hf, hc, hB, hC, h => by
  simp only [schedX,Bool.and_eq_true] at hB;obtain⟨⟨⟨⟨hp,hr⟩,hfr⟩,hpx⟩,hB'⟩:=hB;have hr2:i∈Region.ready .any ops listed:=by simpa using hr
  have hlx:∀ j oj,ops[j]?=some oj→j≠i→listed.getD j true=false→xs.contains j=false∨waitsT ops ops.size j i=true:=by
   intro j oj hoj hji hun;unfold plainX at hpx;have:=List.all_eq_true.1 hpx j (List.mem_range.2 (Array.getElem?_eq_some_iff.1 hoj).1);simp only [Bool.or_eq_true,beq_iff_eq,Bool.not_eq_true'] at this
   rcases this with ((h1 | h1) | h1) | h1
   ·
    exact absurd h1 hji
   ·
    rw [h1] at hun;cases hun
   ·
    exact .inl h1
   exact .inr h1
  cases ho:ops[i]? with
  | none => simp [ho] at hp
  | some o =>
   have hp':plainOp o.op=true:=by simpa [ho] using hp
   have hso:schedOps ops ((i,true) :: rest)=(o,true) :: schedOps ops rest:=by simp [schedOps,ho]
   rw [hso] at h;simp only [wpSchedX] at h;have hl:rest.length+xs.length≤fuel:=by simp at hf;omega
   by_cases hw:Region.wanted o (yielded ops a.tmps)=true
   ·
    rw [if_pos hw] at h;obtain⟨v,hv,hn⟩:=h;exact wpAnyX_first ho (Region.noSelect_spec hs) (fun c a w=>hQ c a _ _ w) fuel listed a w hc (Region.free_spec ho hfr) hlx hr2 (yieldsIf_of_quiet hp' hw hv) hC (wpAnyX_sched hs hQ xs rest fuel _ _ _ hl (hc.set hr2) hB' hC hn)
   rw [if_neg hw] at h;exact wpAnyX_first (v:=undef) ho (Region.noSelect_spec hs) (fun c a w=>hQ c a _ _ w) fuel listed a w hc (Region.free_spec ho hfr) hlx hr2 (.inr ⟨by simpa using hw,rfl⟩) hC (wpAnyX_sched hs hQ xs rest fuel _ _ _ hl (hc.set hr2) hB' hC h)
 | (i, false) :: rest, fuel + 1, listed, a, w, hf, hc, hB, hC, h => by
  simp only [schedX,Bool.and_eq_true] at hB;obtain⟨⟨hr,hx⟩,hB'⟩:=hB;have hr':Region.ready .any ops listed=[i]:=by simpa using hr
  have hm:i∈Region.ready .any ops listed:=by rw [hr'];simp
  obtain⟨_,oi,hoi,_⟩:=mem_ready.1 hm;have hso:schedOps ops ((i,false) :: rest)=(oi,false) :: schedOps ops rest:=by simp [schedOps,hoi]
  rw [hso] at h;simp only [wpSchedX] at h;refine⟨fun h0=>absurd (hr' ▸ h0) (by simp),fun j hj=>?_⟩;obtain rfl:j=i:=by rw [hr'] at hj;simpa using hj
  exact wpOp_mono (fun a' w' hh=>⟨fun _=>hh.1,wpAnyX_sched hs hQ xs rest fuel _ _ _ (by simp at hf;omega) (hc.set hm) hB' hh.1 hh.2⟩) (wpList_one hoi h)
def wpBlocksX (P:Program) (ops:Array Oper) (Q:Exit→Act→World→Prop) (C:World→Prop) (xs:List Nat):List (List Nat×Nat)→List Nat→Act→World→Prop
  | [], tail, a, w => wpQuiet P ops C (fun a' => wpList P ops Q (pickOps ops xs) a' w) (pickOps ops tail) a
  | (l1, s) :: bs, tail, a, w => wpQuiet P ops C (fun a' => wpList P ops (Exit.then (fun a2 w2 => C w2 ∧ wpBlocksX P ops Q C xs bs tail a2 w2) Q) (pickOps ops [s]) a' w) (pickOps ops l1) a
theorem wpSchedX_quiet {xs:List Nat} {rest:List (Oper×Bool)} {w:World}:∀ (l1:List Oper) (a:Act),wpQuiet P ops C (fun a'=>wpSchedX P ops Q C xs rest a' w) l1 a→wpSchedX P ops Q C xs (l1.map (fun o=>(o,true)) ++ rest) a w
 | [], _, h => h
 | o :: l1, a, h => by
  simp only [List.map_cons,List.cons_append,wpSchedX,wpQuiet] at h ⊢
  by_cases hw:Region.wanted o (yielded ops a.tmps)=true
  ·
   rw [if_pos hw] at h ⊢
   obtain⟨v,hv,hn⟩:=h;exact⟨v,hv,wpSchedX_quiet l1 _ hn⟩
  rw [if_neg hw] at h ⊢
  exact wpSchedX_quiet l1 _ h
theorem wpSchedX_blocks {xs:List Nat}:∀ (bs:List (List Nat×Nat)) (tail:List Nat),(∀ b∈bs,b.2<ops.size)→∀ (a:Act) (w:World),wpBlocksX P ops Q C xs bs tail a w→wpSchedX P ops Q C xs (schedOps ops (blocks bs tail)) a w
 | [], tail, _, a, w, h => by
  simp only [blocks,schedOps_plain];have:=wpSchedX_quiet (Q:=Q) (xs:=xs) (rest:=[]) (w:=w) (pickOps ops tail) a h
  simpa using this
 | (l1, s) :: bs, tail, hb, a, w, h => by
  have hs:s<ops.size:=hb (l1,s) (by simp);have ho:ops[s]?=some ops[s]:=by simp [hs]
  have hso:schedOps ops ((s,false) :: blocks bs tail)=(ops[s],false) :: schedOps ops (blocks bs tail):=by simp [schedOps,ho]
  have hps:pickOps ops [s]=[ops[s]]:=by simp [pickOps,ho]
  simp only [blocks,schedOps_append,schedOps_plain,hso];refine wpSchedX_quiet (pickOps ops l1) a (wpQuiet_mono (fun a' h'=>?_) _ _ h);rw [hps] at h'
  have hm:∀ e a2 w2,Exit.then (fun a2 w2=>C w2∧wpBlocksX P ops Q C xs bs tail a2 w2) Q e a2 w2→Exit.then (fun a2 w2=>C w2∧wpSchedX P ops Q C xs (schedOps ops (blocks bs tail)) a2 w2) Q e a2 w2:=by
   intro e a2 w2 hh
   cases e with
   | normal => exact ⟨hh.1, wpSchedX_blocks bs tail (fun b hbm => hb b (by simp [hbm])) a2 w2 hh.2⟩
   | _ => exact hh
  exact wpList_mono hm h'
theorem wp_region_fin {id:Nat} {a:Act} {w:World} (S:Nat→Prop) (bs:List (List Nat×Nat)) (tail xs:List Nat) (hm:P.follows .mixedOrders=true) (hs:Region.noSelect ops=true)
  (hB:(decide ((blocks bs tail).length+xs.length≤ops.size) && bs.all (fun b=>decide (b.2<ops.size)) && schedX ops xs (blocks bs tail) (Array.replicate ops.size false))=true)
  (h:wpBlocksX P ops (NoPanic Q) (fun w1=>∃ x:ChgSW S w,w1=x.w') xs bs tail a w.drew):(Code.region id ops true).wp P Q a w:=by
 simp only [Bool.and_eq_true,List.all_eq_true] at hB;obtain⟨⟨h1,h2⟩,h3⟩:=hB;refine wp_region_noPanic ?_;exact wp_region_any hm (wpAny_of_X _ _ _ _ (wpAnyX_sched (C:=fun w1=>∃ x:ChgSW S w,w1=x.w') hs (fun _ _ _ _ _ h=>h) xs (blocks bs tail) _ _ _ _ (of_decide_eq_true h1) (Closed.start _) h3 ⟨⟨_,Ar (Ab w).drew⟩,rfl⟩ (wpSchedX_blocks bs tail (fun b hb=>of_decide_eq_true (h2 b hb)) a w.drew h)))
end
set_option maxRecDepth 100000 in
theorem s_l3Word (g:Nat)  (cv:Value) (cd:List Int) (w:World) (hc:Cur g cv cd w) :
  Calls Tryz.prog 89 #[.pointer (some ⟨g,0,none⟩)] w fun e w'=>∃ r:Int,e=.returned (.int .i64 r)∧-1≤r∧r≤2147483648∧Cur g cv cd w'∧Chg (at1 g) w w':=by
 go_enter Tryz.func89,Tryz.ntmps89
 go_wp2_with fail
 refine(s_l1Once g (10) _ _ _ hc).mono ?_;rintro e w1 ⟨b,rfl,hc1,hz1⟩
 cases b
 case true=>
  go_wp2_with fail
  refine(s_l1Int g [-1,2147483647,2147483648] _ _ _ hc1 (by decide) (by decide)).mono ?_;rintro e w2 ⟨r,rfl,hmr,hc2,hz2⟩;have hbr:-1≤r∧r≤2147483648:=by simp at hmr;omega
  obtain⟨hr0,hr1⟩:=hbr;clear hmr
  go_wp2_with fail
  go_ret
  exact⟨r,rfl,by omega,by omega,hc2,(hz1.t hz2)⟩
 case false=>
  go_wp2_with fail
  refine(s_l1Once g (4) _ _ _ hc1).mono ?_;rintro e w3 ⟨b2,rfl,hc3,hz3⟩
  cases b2
  case true=>
   go_wp2_with fail
   refine(s_l1Int g [0,1,2147483646] _ _ _ hc3 (by decide) (by decide)).mono ?_;rintro e w4 ⟨r,rfl,hmr,hc4,hz4⟩;have hbr:0≤r∧r≤2147483646:=by simp at hmr;omega
   obtain⟨hr0,hr1⟩:=hbr;clear hmr
   go_wp2_with fail
   go_ret
   exact⟨r,rfl,by omega,by omega,hc4,((hz1.t hz3).t hz4)⟩
  case false=>
   go_wp2_with fail
   refine(s_l1Below g (1000000) _ _ _ hc3).mono ?_;rintro e w5 ⟨x,rfl,hx0,hx1,hc5,hz5⟩;have hx2:x<1000000:=by omega
   clear hx1
   go_wp2_with fail
   refine(s_l1Below g (2000) _ _ _ hc5).mono ?_;rintro e w6 ⟨y,rfl,hy0,hy1,hc6,hz6⟩;have hy2:y<2000:=by omega
   clear hy1;have hp0:0≤x * y:=Int.mul_nonneg hx0 hy0;have hp1:x * y≤999999 * 1999:=Int.mul_le_mul (by omega) (by omega) hy0 (by decide)
   go_wp2_with fail
   go_ret
   exact⟨_,rfl,by omega,by omega,hc6,(((hz1.t hz3).t hz5).t hz6)⟩
theorem i_copyBytes (l:List Int) (v:Value) (w:World) (hv:RdS Rep.byte w v l) (hl:l.length≤1099511627776) :
  Calls Tryz.prog 67 #[v] w fun e w'=>∃ v',e=.returned v'∧OwnF byteF 1 w.heap.size 5 w' v' l∧Ext w w':=by
 obtain⟨E⟩:=elemByte
 go_enter Tryz.func67,Tryz.ntmps67
 go_wp2_with (at_builtin;refine appS E byteFlen byteOne rfl _ _ rfl l rfl (Bj byteF 1 w.heap.size _ w (Ae _)) rfl (hv.ext ((Ab _).alloc _)) (by simp;omega) (by simp [maxLen];omega) (by simp) ?_)
 intro v' w' ho' hg';have hx':Ext w w':=((Ab w).alloc _).app hg' (Bj byteF 1 w.heap.size 5 w (Ae _)) (Ae _)
 try rw [List.nil_append] at ho'
 clear hg'
 go_wp2
 go_ret
 exact⟨_,rfl,ho',hx'⟩
def ASd.mk' (k:Int):ASd:=⟨k,decide ((k+1) % 3=0),k+1+1⟩
def asOwn:Own ASd:=Own.flat ASd.f 3 ASd.flen 129
def lnkOwn:Own Lnk:=Own.flat Lnk.f 5 Lnk.flen 127
def Topo.own (S:Nat→Prop) (w:World) (h0 h1:Value) (x:Topo):Prop:=
  ∃ S0 S1:Nat→Prop,asOwn.own S0 w h0 x.ases∧lnkOwn.own S1 w h1 x.links∧(∀ b,S0 b→S b)∧(∀ b,S1 b→S b)∧∀ b,S0 b→¬ S1 b
theorem Topo.own_kept {S T:Nat→Prop} {w w':World} {h0 h1:Value} {x:Topo} (h:Topo.own S w h0 h1 x) (c:Chg T w w') (hs:∀ b,S b→¬ T b):Topo.own S w' h0 h1 x:=by
 obtain⟨S0,S1,a,b,c0,c1,d⟩:=h;exact⟨S0,S1,asOwn.kept a c (fun k hk=>hs k (c0 k hk)),lnkOwn.kept b c (fun k hk=>hs k (c1 k hk)),c0,c1,d⟩
theorem Topo.own_ext {S:Nat→Prop} {w w':World} {h0 h1:Value} {x:Topo} (h:Topo.own S w h0 h1 x) (e:Ext w w'):Topo.own S w' h0 h1 x:=
 Topo.own_kept h (Ar (S:=noB) e) (fun _ _ h=>h)
theorem Topo.own_mono {S T:Nat→Prop} {w:World} {h0 h1:Value} {x:Topo} (h:Topo.own S w h0 h1 x) (hs:∀ b,S b→T b):Topo.own T w h0 h1 x:=by
 obtain⟨S0,S1,a,b,c0,c1,d⟩:=h;exact⟨S0,S1,a,b,fun k hk=>hs k (c0 k hk),fun k hk=>hs k (c1 k hk),d⟩
theorem Topo.own_rd0 {S:Nat→Prop} {w:World} {h0 h1:Value} {x:Topo} (h:Topo.own S w h0 h1 x):RdS ASd.rep w h0 x.ases:=by
 obtain⟨S0,S1,a,_⟩:=h;exact asOwn.rd a
theorem Topo.own_rd1 {S:Nat→Prop} {w:World} {h0 h1:Value} {x:Topo} (h:Topo.own S w h0 h1 x):RdS Lnk.rep w h1 x.links:=by
 obtain⟨S0,S1,_,b,_⟩:=h;exact lnkOwn.rd b
theorem OwnF.apartT {α β:Type} {n m:Nat} {f:α→List Value} {f':β→List Value} {base base':Nat} {e e':TypeId} {w:World} {v v':Value} {l:List α} {l':List β} (h:OwnF f n base e w v l) (h':OwnF f' m base' e' w v' l') (hne:e≠e') {b:Nat} (hb:v.ownBlock=some b):v'.ownBlock≠some b:=by
 rcases h.2 with ⟨rfl,_⟩ | ⟨g,cap,cur,rfl,_,hg,_⟩
 ·
  simp [Value.ownBlock] at hb
 have:g=b:=by simpa [Value.ownBlock] using hb
 subst this;exact OwnF.ne h' hg (fun x=>hne x.symm)
theorem Topo.own_of {base:Nat} {w:World} {u1 u2:Value} {x:Topo} (o1:OwnF ASd.f 3 base 129 w u1 x.ases) (o2:OwnF Lnk.f 5 base 127 w u2 x.links):Topo.own (rng base w.heap.size) w u1 u2 x:=
 ⟨fun b=>u1.ownBlock=some b,fun b=>u2.ownBlock=some b,⟨o1.to0,fun _ h=>h⟩,⟨o2.to0,fun _ h=>h⟩,fun b hb=>o1.block b hb,fun b hb=>o2.block b hb,fun _ hb h2=>OwnF.apartT o1 o2 (by decide) hb h2⟩
end
abbrev Af := @Own.at1g
abbrev Be := @Own.toKeep
abbrev Bg := @Own.upTo
abbrev Bl := @wp_region_fin
abbrev Cd := @Own.lo
end Go.Proofs.YteodlcpeoaggbaaGreat
