/- What these laws need: FnOld: Marking and holding parts and paths: the contracts of the laws' helper functions. A region that draws its order, walked along one schedule: what only reads is taken as soon as it may come up; a call, an allocation, an append comes up when it alone may. Worlds in which only a cursor's block was written: what reads the same in them, and regions that draw their order among calls that move the cursor. Rows that the call owns, by ranges of blocks, and rows that are only read from now on. Appending to rows whose elements hold slices, where the row owns any set of blocks: one element, and a whole row. Slices of paths: how they read, what they own, and the contracts of the laws' helper functions over them. -/
import Derived.Deep.LoopGhost
import Derived.OrdersHeld
import Derived.Test.YteodlcpeoaggbaaGreatKV5
namespace Go.Proofs.YteodlcpeoaggbaaGreat
section
open Go.ChangeShapes Go.WideShapes Go.ChangeAt Go.RowKit Go.Deep
def Hop.ownS:Own Hop:=Own.flat Hop.f 5 Ao 103
section
variable {P : Program} {ops : Array Oper} {Q : Exit → Act → World → Prop} {C : World → Prop}
def schedB (ops:Array Oper):List (Nat×Bool)→Array Bool→Bool
  | [], listed => (Region.ready .any ops listed).isEmpty
  | (i, true) :: rest, listed => ((ops[i]?).map fun o => plainOp o.op).getD false && (Region.ready .any ops listed).contains i && Region.free .any ops listed i && schedB ops rest (listed.setIfInBounds i true)
  | (i, false) :: rest, listed => (Region.ready .any ops listed == [i]) && schedB ops rest (listed.setIfInBounds i true)
def wpSched (P:Program) (ops:Array Oper) (Q:Exit→Act→World→Prop) (C:World→Prop):List (Oper×Bool)→Act→World→Prop
  | [], a, w => Q .normal a w
  | (o, true) :: rest, a, w => if Region.wanted o (yielded ops a.tmps) then o.quiet P a C (fun a' => wpSched P ops Q C rest a' w) else wpSched P ops Q C rest (a.put o.dst undef) w
  | (o, false) :: rest, a, w => wpList P ops (Exit.then (fun a' w' => C w' ∧ wpSched P ops Q C rest a' w') Q) [o] a w
theorem wpAnyH_sched (hs:Region.noSelect ops=true) (hQ:∀ c (a:Act) d v w,Q (.panic c) (a.put d v) w→Q (.panic c) a w) :
  ∀ (l:List (Nat×Bool)) (fuel:Nat) (listed:Array Bool) (a:Act) (w:World),l.length≤fuel→schedB ops l listed=true→C w→wpSched P ops Q C (schedOps ops l) a w→wpAnyH P .any ops Q C fuel listed a w
 | [], fuel, listed, a, w, _, hB, _, h => wpAnyH_done (by simpa [schedB] using hB) h fuel
 | (i, t) :: rest, 0, _, _, _, hf, _, _, _ => absurd hf (by simp)
 | (i, true) :: rest, fuel + 1, listed, a, w, hf, hB, hC, h => by
  simp only [schedB,Bool.and_eq_true] at hB;obtain⟨⟨⟨hp,hr⟩,hfr⟩,hB'⟩:=hB
  cases ho:ops[i]? with
  | none => simp [ho] at hp
  | some o =>
   have hp':plainOp o.op=true:=by simpa [ho] using hp
   have hso:schedOps ops ((i,true) :: rest)=(o,true) :: schedOps ops rest:=by simp [schedOps,ho]
   rw [hso] at h;simp only [wpSched] at h
   by_cases hw:Region.wanted o (yielded ops a.tmps)=true
   ·
    rw [if_pos hw] at h;obtain⟨v,hv,hn⟩:=h;exact wpAnyH_take ho hs hfr hr (fun c a w=>hQ c a _ _ w) (yieldsIf_of_quiet hp' hw hv) hC (wpAnyH_sched hs hQ rest fuel _ _ _ (by simpa using hf) hB' hC hn)
   rw [if_neg hw] at h;exact wpAnyH_take (v:=undef) ho hs hfr hr (fun c a w=>hQ c a _ _ w) (.inr ⟨by simpa using hw,rfl⟩) hC (wpAnyH_sched hs hQ rest fuel _ _ _ (by simpa using hf) hB' hC h)
 | (i, false) :: rest, fuel + 1, listed, a, w, hf, hB, hC, h => by
  simp only [schedB,Bool.and_eq_true] at hB;obtain⟨hr,hB'⟩:=hB;have hr':Region.ready .any ops listed=[i]:=by simpa using hr
  refine wpAnyH_all hr' (by simp) ?_;intro j hj;obtain rfl:j=i:=by simpa using hj
  cases ho:ops[j]? with
  | none =>
   have hm:j∈Region.ready .any ops listed:=by rw [hr'];simp
   obtain⟨_,oj,hoj,_⟩:=mem_ready.1 hm;rw [ho] at hoj;cases hoj
  | some o =>
   have hso:schedOps ops ((j,false) :: rest)=(o,false) :: schedOps ops rest:=by simp [schedOps,ho]
   rw [hso] at h;simp only [wpSched] at h;exact wpOp_mono (fun a' w' hh=>⟨hh.1,wpAnyH_sched hs hQ rest fuel _ _ _ (by simpa using hf) hB' hh.1 hh.2⟩) (wpList_one ho h)
theorem wpSched_quiet {rest:List (Oper×Bool)} {w:World}:∀ (l1:List Oper) (a:Act),wpQuiet P ops C (fun a'=>wpSched P ops Q C rest a' w) l1 a→wpSched P ops Q C (l1.map (fun o=>(o,true)) ++ rest) a w
 | [], _, h => h
 | o :: l1, a, h => by
  simp only [List.map_cons,List.cons_append,wpSched,wpQuiet] at h ⊢
  by_cases hw:Region.wanted o (yielded ops a.tmps)=true
  ·
   rw [if_pos hw] at h ⊢
   obtain⟨v,hv,hn⟩:=h;exact⟨v,hv,wpSched_quiet l1 _ hn⟩
  rw [if_neg hw] at h ⊢
  exact wpSched_quiet l1 _ h
theorem wpSched_run {o:Oper} {rest:List (Oper×Bool)} {a:Act} {w:World} (h:wpList P ops (Exit.then (fun a' w'=>C w'∧wpSched P ops Q C rest a' w') Q) [o] a w):wpSched P ops Q C ((o,false) :: rest) a w:=h
theorem wp_region_sched {id:Nat} {a:Act} {w:World} (l:List (Nat×Bool)) (hm:P.follows .mixedOrders=true) (hs:Region.noSelect ops=true) (hl:decide (l.length≤ops.size)=true) (hB:schedB ops l (Array.replicate ops.size false)=true)
  (hQ:∀ c (a:Act) d v w,Q (.panic c) (a.put d v) w→Q (.panic c) a w) (hC:C w.drew) (h:wpSched P ops Q C (schedOps ops l) a w.drew):(Code.region id ops true).wp P Q a w:=
 wp_region_held (S:=C) hm (wpAnyH_sched hs hQ l _ _ _ _ (of_decide_eq_true hl) hB hC h)
def wpBlocks (P:Program) (ops:Array Oper) (Q:Exit→Act→World→Prop) (C:World→Prop):List (List Nat×Nat)→List Nat→Act→World→Prop
  | [], tail, a, w => wpQuiet P ops C (fun a' => Q .normal a' w) (pickOps ops tail) a
  | (l1, s) :: bs, tail, a, w => wpQuiet P ops C (fun a' => wpList P ops (Exit.then (fun a2 w2 => C w2 ∧ wpBlocks P ops Q C bs tail a2 w2) Q) (pickOps ops [s]) a' w) (pickOps ops l1) a
theorem wpSched_blocks {Q:Exit→Act→World→Prop}:∀ (bs:List (List Nat×Nat)) (tail:List Nat),(∀ b∈bs,b.2<ops.size)→∀ (a:Act) (w:World),wpBlocks P ops Q C bs tail a w→wpSched P ops Q C (schedOps ops (blocks bs tail)) a w
 | [], tail, _, a, w, h => by
  simp only [blocks,schedOps_plain];have:=wpSched_quiet (Q:=Q) (rest:=[]) (w:=w) (pickOps ops tail) a h
  simpa using this
 | (l1, s) :: bs, tail, hb, a, w, h => by
  have hs:s<ops.size:=hb (l1,s) (by simp);have ho:ops[s]?=some ops[s]:=by simp [hs]
  have hso:schedOps ops ((s,false) :: blocks bs tail)=(ops[s],false) :: schedOps ops (blocks bs tail):=by simp [schedOps,ho]
  have hps:pickOps ops [s]=[ops[s]]:=by simp [pickOps,ho]
  simp only [blocks,schedOps_append,schedOps_plain,hso];refine wpSched_quiet (pickOps ops l1) a (wpQuiet_mono (fun a' h'=>?_) _ _ h);rw [hps] at h';refine wpSched_run ?_
  have hm:∀ e a2 w2,Exit.then (fun a2 w2=>C w2∧wpBlocks P ops Q C bs tail a2 w2) Q e a2 w2→Exit.then (fun a2 w2=>C w2∧wpSched P ops Q C (schedOps ops (blocks bs tail)) a2 w2) Q e a2 w2:=by
   intro e a2 w2 hh
   cases e with
   | normal => exact ⟨hh.1, wpSched_blocks bs tail (fun b hbm => hb b (by simp [hbm])) a2 w2 hh.2⟩
   | _ => exact hh
  exact wpList_mono hm h'
end
section
variable {P : Program} {ops : Array Oper} {Q : Exit → Act → World → Prop}
theorem wp_region_set {id:Nat} {a:Act} {w:World} (S:Nat→Prop) (bs:List (List Nat×Nat)) (tail:List Nat) (hm:P.follows .mixedOrders=true) (hs:Region.noSelect ops=true)
  (hB:(decide ((blocks bs tail).length≤ops.size) && bs.all (fun b=>decide (b.2<ops.size)) && schedB ops (blocks bs tail) (Array.replicate ops.size false))=true)
  (h:wpBlocks P ops (NoPanic Q) (fun w1=>∃ x:ChgSW S w,w1=x.w') bs tail a w.drew):(Code.region id ops true).wp P Q a w:=by
 simp only [Bool.and_eq_true,List.all_eq_true] at hB;obtain⟨⟨h1,h2⟩,h3⟩:=hB;refine wp_region_noPanic ?_;exact wp_region_sched (C:=fun w1=>∃ x:ChgSW S w,w1=x.w') (blocks bs tail) hm hs h1 h3 (fun _ _ _ _ _ h=>h) ⟨⟨_,Ar (Ab w).drew⟩,rfl⟩ (wpSched_blocks bs tail (fun b hb=>of_decide_eq_true (h2 b hb)) a w.drew h)
end
section
variable {α : Type} {O : Own α} {a b : Nat} {w w' : World} {v : Value} {l : List α}
theorem Own.stR {g:Nat} (h:O.own (rng a b) w v l) (hg:g<a∨b≤g):St g O.rep w v l:=fun _ c=>O.rd (Af h c hg)
end
section
variable {P : Program} {w : World} {ops : Array Oper} {rest : List Oper} {o : Oper} {a : Act} {Q : Exit → Act → World → Prop}
theorem appSp {t e:TypeId} {n bytes:Nat} (E:Elem P t e n bytes) {α:Type} {f:α→List Value} (hf:∀ a,(f a).length=n) (hgd:o.guard=none) (s x:Operand)
  (ho:o.op=.call { callee:=.builtin .append,args:=#[s,x],argTypes:=#[t,t] }) {base:Nat} {v vs:Value} {l:List α} (src:List α) (h1:∀ b∈src,∀ u∈f b,u.oneCell'=true) (hs:a.eval s=v) (hown:OwnF f n base e w v l)
  (hx:a.eval x=vs) (hsrc:RdS (Rep.flat n f hf) w vs src)
  (hl:(l.length+src.length) * bytes≤140737488355328) (hm:l.length+src.length≤maxLen) (hbase:base≤w.heap.size)
  (h:∀ v' w',OwnF f n base e w' v' (l ++ src)→w.grownBy w' v.ownBlock→(v'.ownBlock=v.ownBlock∨v'.ownBlock=some w.heap.size)→wpList P ops Q rest (a.put o.dst v') w'):wpList P ops Q (o :: rest) a w:=by
 obtain⟨oa,cap,rfl,hc1,hc2,hn0,hel⟩:=hsrc
 cases oa with
 | none =>
  have hnil:src=[]:=by
   cases src with
   | nil => rfl
   | cons b src => obtain ⟨_, _, _, he, _⟩ := hel 0 (by simp); cases he
  subst hnil;obtain rfl:=hn0 rfl;refine wpList_append_own_none hgd s x t ho base e E.i n E.ht E.hi v l.length (l.flatMap f) hs hown hx ?_;refine h v w ?_ (World.grownBy.refl _ _) (.inl rfl);rw [List.append_nil];exact hown
 | some ad =>
  refine wpList_append_own_at w hgd s x t ho base e E.i E.z n bytes E.ht E.hi E.hz E.hsize E.hby E.hzs E.hpos v l.length (l.flatMap f) hs hown ad src.length cap (src.flatMap f) hx (flatMap_len hf src) ?_ ?_ hm hl hbase ?_
  ·
   intro j u hu;have hjl:j<src.length * n:=by rw [← flatMap_len hf src];exact(List.getElem?_eq_some_iff.1 hu).1
   have hk:j / n<src.length:=by rw [Nat.div_lt_iff_lt_mul E.hpos];exact hjl
   have hr:=Nat.mod_lt j E.hpos;obtain⟨b,off,cs,hb,hcell,rfl⟩:=hel (j / n) hk
   cases hb
   have hfm:=flatMap_at hf src (j / n) hk (j % n) hr;have hdm:j / n * n+j % n=j:=by rw [Nat.mul_comm];exact Nat.div_add_mod j n
   rw [hdm,hu] at hfm;have:=hcell (j % n) u hfm.symm;have hadd:(⟨b,off,none⟩:Addr).add j=⟨b,off+j,none⟩:=by unfold Addr.add;split <;> simp_all
   rw [hadd];rw [← this]
   show _=w.cell? ⟨b,off+j / n * n+j % n,none⟩
   rw [Nat.add_assoc,hdm]
  ·
   intro u hu;obtain⟨b,hm',hb⟩:=List.mem_flatMap.1 hu;exact h1 b hm' u hb
  intro v' w' ho' hg _ hat;refine h v' w' ?_ hg hat;unfold OwnF;rw [List.length_append,List.flatMap_append];exact ho'
variable {α β : Type} {n : Nat} {c : α → Value → List Value} {hc : ∀ a v, (c a v).length = n} {sub : α → List β} {e : TypeId} {I : Own β}
theorem appGS {t:TypeId} {bytes:Nat} {S S2:Nat→Prop} (E:Elem P t e n bytes) (hgd:o.guard=none) (s x:Operand)
  (ho:o.op=.call { callee:=.builtin .append,args:=#[s,x],argTypes:=#[t,t] }) {v vs:Value} {l src:List α}
  (h1:∀ (b:α) (oo:Option Addr) (m k:Nat),∀ u∈c b (.slice oo m k),u.oneCell'=true) (hs:a.eval s=v) (hown:(Own.nest n c hc sub e I).own S w v l) (hx:a.eval x=vs) (hsrc:(Own.nest n c hc sub e I).own S2 w vs src) (hdis:∀ b,S b→¬ S2 b)
  (hl:(l.length+src.length) * bytes≤140737488355328) (hm:l.length+src.length≤maxLen)
  (h:∀ v' w',(Own.nest n c hc sub e I).own (fun q=>(S q∨S2 q)∨(w.heap.size≤q∧q<w'.heap.size)) w' v' (l ++ src)→w.grownBy w' v.ownBlock→(∀ q,v.ownBlock=some q→S q)→wpList P ops Q rest (a.put o.dst v') w'):wpList P ops Q (o :: rest) a w:=by
 obtain⟨qs,hq,hoq,hS,hqq,hd⟩:=hown;obtain⟨qs2,hq2,hoq2,hS2,hqq2,hd2⟩:=hsrc;have hlq:qs.length=l.length:=by rw [← hq,List.length_map]
 have hlq2:qs2.length=src.length:=by rw [← hq2,List.length_map]
 have hf:∀ q:Cap α,(capF c q).length=n:=fun q:Cap α=>hc q.dat q.val
 refine appSp E (f:=capF c) hf hgd s x ho qs2 (fun q hqm u hu=>?_) hs hoq hx (Bb (hf:=hf) hoq2) (by rw [hlq,hlq2];exact hl) (by rw [hlq,hlq2];exact hm) (Nat.zero_le _) ?_
 ·
  obtain⟨oo,k,hv,_⟩:=(I.rd (hqq2 q hqm).1).shape;unfold capF at hu;rw [hv] at hu;exact h1 _ _ _ _ u hu
 intro v' w' ho' hg hat;refine h v' w' ?_ hg hS;have hch:Chg (fun b=>v.ownBlock=some b) w w':=Bn hg (fun k hk=>hk)
 have hne:∀ b,b<w.heap.size→v.ownBlock≠some b→v'.ownBlock≠some b:=by
  intro b hb hn
  rcases hat with h1 | h1
  ·
   rw [h1];exact hn
  rw [h1];intro e;cases e;omega
 have hn2:∀ b,S2 b→v.ownBlock≠some b:=fun b hb e=>hdis b (hS b e) hb
 refine⟨qs ++ qs2,by rw [List.map_append,hq,hq2],ho',fun k hk=>?_,fun q hqm=>?_,fun i j hi' hj' hne' b hbi=>?_⟩
 ·
  rcases hat with h1 | h1
  ·
   rw [h1] at hk;exact .inl (.inl (hS k hk))
  rw [h1] at hk;cases hk;exact .inr ⟨Ae _,(ho'.block _ h1).2⟩
 ·
  rcases List.mem_append.1 hqm with h1 | h1
  ·
   obtain⟨a1,a2⟩:=hqq q h1;refine⟨I.kept a1 hch (fun b hb=>(a2 b hb).2.1),fun b hb=>?_⟩;obtain⟨x1,x2,x3⟩:=a2 b hb;exact⟨.inl (.inl x1),hne b x3 x2,Ak x3 hch.size⟩
  obtain⟨a1,a2⟩:=hqq2 q h1;refine⟨I.kept a1 hch (fun b hb=>hn2 b (a2 b hb).1),fun b hb=>?_⟩;obtain⟨x1,x2,x3⟩:=a2 b hb;exact⟨.inl (.inr x1),hne b x3 (hn2 b x1),Ak x3 hch.size⟩
 simp only [List.length_append] at hi' hj'
 rcases Nat.lt_or_ge i qs.length with e1 | e1
 ·
  rw [List.getElem_append_left e1] at hbi
  rcases Nat.lt_or_ge j qs.length with e2 | e2
  ·
   rw [List.getElem_append_left e2];exact hd i j e1 e2 hne' b hbi
  rw [List.getElem_append_right e2];intro h3;exact hdis b ((hqq qs[i] (List.getElem_mem _)).2 b hbi).1 ((hqq2 _ (List.getElem_mem _)).2 b h3).1
 rw [List.getElem_append_right e1] at hbi
 rcases Nat.lt_or_ge j qs.length with e2 | e2
 ·
  rw [List.getElem_append_left e2];intro h3;exact hdis b ((hqq qs[j] (List.getElem_mem _)).2 b h3).1 ((hqq2 _ (List.getElem_mem _)).2 b hbi).1
 rw [List.getElem_append_right e2];exact hd2 _ _ (by omega) (by omega) (by omega) b hbi
end
theorem Pth.clen (x:Pth) (v:Value):(x.c v).length=1:=rfl
theorem Pth.at {w:World} {o:Option Addr} {m cap:Nat} {l:List Pth} (h:RdS Pth.rep w (.slice o m cap) l) (k:Nat) (hk:k<l.length) :
  ∃ b off oh ch,o=some ⟨b,off,none⟩∧w.cell? ⟨b,off+k,none⟩=some (.slice oh l[k].parts.length ch)∧RdS Part.rep w (.slice oh l[k].parts.length ch) l[k].parts:=by
 obtain⟨o',cap',hv,h1,h2,hn,h3⟩:=h;obtain⟨b,off,cs,ho,hc,v,rfl,hr⟩:=h3 k hk
 cases hv
 obtain⟨oh,ch,rfl,_⟩:=hr.shape;have:=hc 0 _ rfl;refine⟨b,off,oh,ch,ho,?_,hr⟩;have e:Pth.rep.cells=1:=rfl
 simpa [e] using this
def pszN (l:List Pth):Nat:=(l.map Pth.size).sum
def pthsN (l:List Pth):Nat:=l.length+pszN l
theorem pszN_snoc {l:List Pth} {k:Nat} (hk:k<l.length):pszN (l.take (k+1))=pszN (l.take k)+l[k].size:=by
 unfold pszN;rw [List.take_succ_eq_append_getElem hk,List.map_append,List.sum_append];simp only [List.map_cons,List.map_nil,List.sum_cons,List.sum_nil];omega
theorem pszN_take_le (l:List Pth) (k:Nat):pszN (l.take k)≤pszN l:=by
 unfold pszN;have h:=List.take_append_drop k l;have h2:(l.map Pth.size).sum=((l.take k ++ l.drop k).map Pth.size).sum:=by rw [h]
 rw [List.map_append,List.sum_append] at h2;omega
theorem pszN_le {l:List Pth} {k:Nat} (hk:k<l.length):l[k].size≤pszN l:=by
 have h1:=pszN_snoc hk;have h2:=pszN_take_le l (k+1);omega
theorem Tryz.infoPth:(Tryz.prog.info? 30).map (fun i=>(i.zero,i.size,i.bytes))=some (some (.agg #[.slice none 0 0]),1,24):=by kernel_rfl
theorem elemPth:Nonempty (Elem Tryz.prog 60 30 1 24):=Elem.mk' Tryz.underlying60 Tryz.infoPth rfl (by decide)
def Pth.ownS:Own Pth:=Own.nest 1 Pth.c Pth.clen (·.parts) 30 Part.own
theorem Pth.ord {S:Nat→Prop} {w:World} {v:Value} {l:List Pth} (h:Pth.ownS.own S w v l):RdS Pth.rep w v l:=Pth.ownS.rd h
end
end Go.Proofs.YteodlcpeoaggbaaGreat
