/- What these laws need: FnWalks: The steps of a path, once more: from a place in it on, hop by hop. A packet's whole walk: its steps are a first part of the path's steps from its place on; it ends; each step is of an AS that had a valid hop for it. When a packet that began right is delivered: exactly if every hop on its way verifies and is in time, where every AS permits. Parts as they are drawn: of segments whose hops are sealed; they verify, in both directions. Texts of numbers, ASes, steps and verdicts, as rows of bytes. The names of verdicts, program and reference. Contracts of texts of numbers, ASes, steps and verdicts, program and reference. Wherever a packet goes, it passes no interface twice and takes no more steps than its path has hops. A packet set out on a path that every AS permits: it comes to the end, or a hop does not verify or is not in time. -/
import Derived.Laws.BytesArg
import Derived.Deep.LoopGhost
import Derived.Deep.DeepCutAuto
import Derived.Laws.Concat
import Derived.Test.YteodlcpeoaggbaaGreatKV13
import Derived.Test.YteodlcpeoaggbaaGreatKV39
namespace Go.Proofs.YteodlcpeoaggbaaGreat
section
open Go.RowKit
def rawHops (k inn:Int):List Hop→List Step
  | [] => []
  | h :: hs => ⟨h.asn, inn, hopEg k h⟩ :: hs.map (stepOf k)
def lastHop (h:Hop) (hs:List Hop):Hop:=(h :: hs).getLast (by simp)
theorem raw_split (k:Int):∀ (hs:List Hop) (h:Hop) (inn:Int),∃ (Y:List Step) (il:Int),rawHops k inn (h :: hs)=Y ++ [⟨(lastHop h hs).asn,il,hopEg k (lastHop h hs)⟩]∧∀ cont,wHops cont k inn (h :: hs)=Y ++ cont k il (lastHop h hs)
 | [], h, inn => ⟨[], inn, rfl, fun _ => rfl⟩
 | h1 :: hs, h, inn => by
  obtain⟨Y,il,e1,e2⟩:=raw_split k hs h1 (hopIn k h1);refine⟨⟨h.asn,inn,hopEg k h⟩ :: Y,il,?_,fun cont=>?_⟩
  ·
   show(⟨h.asn,inn,hopEg k h⟩:Step) :: rawHops k (hopIn k h1) (h1 :: hs)=_
   rw [e1];rfl
  show(⟨h.asn,inn,hopEg k h⟩:Step) :: wHops cont k (hopIn k h1) (h1 :: hs)=_
  rw [e2];rfl
theorem hopsTo_join (k:Int) (X:List Step) (s:Step) (h:Hop) (hs:List Hop) (he:s.asn=h.asn):∀ i≤hs.length,hopsTo true k (X ++ [s]) (h :: hs) (i+1)=X ++ (⟨h.asn,s.ing,hopEg k h⟩ :: (hs.take i).map (stepOf k))
 | 0, _ => by
  rw [hopsTo_succ (by simp)];have hm:mergeB (true && (0:Nat) == 0) (X ++ [s]) h=true:=by simp [mergeB,he]
  show stepOne (true && (0:Nat) == 0) k (X ++ [s]) h=_
  rw [stepOne_yes2 hm (by simp)]
  simp
 | i + 1, hi => by
  rw [hopsTo_succ (by simp;omega),hopsTo_join k X s h hs he i (by omega)];rw [stepOne_no (by simp [mergeB])];rw [List.take_succ_eq_append_getElem (by omega),List.map_append];simp only [List.append_assoc,List.cons_append,List.getElem_cons_succ];rfl
theorem hopsTo_first (k:Int) (hs:List Hop):∀ i≤hs.length,hopsTo false k [] hs i=(hs.take i).map (stepOf k)
 | 0, _ => by simp [hopsTo]
 | i + 1, hi => by
  rw [hopsTo_succ (by omega),hopsTo_first k hs i (by omega),stepOne_no (by simp [mergeB]),List.take_succ_eq_append_getElem (by omega),List.map_append];rfl
def partsGo (out:List Step):List Part→List Step
  | [] => out
  | p :: ps => partsGo (hopsTo true p.kind out p.hops p.hops.length) ps
theorem partsTo_go:∀ (ps pre:List Part),0<pre.length→partsTo (pre ++ ps) (pre.length+ps.length)=partsGo (partsTo (pre ++ ps) pre.length) ps
 | [], pre, _ => by simp [partsGo]
 | p :: ps, pre, hp => by
  have h1:=partsTo_go ps (pre ++ [p]) (by simp)
  have hs:partsTo (pre ++ p :: ps) (pre.length+1)=hopsTo true p.kind (partsTo (pre ++ p :: ps) pre.length) p.hops p.hops.length:=by
   rw [partsTo_succ (by simp)]
   simp [hp]
  rw [List.append_assoc,List.singleton_append,List.length_append,List.length_singleton] at h1;rw [show pre.length+(p :: ps).length=pre.length+1+ps.length by simp;omega,h1,hs];rfl
def chain:Hop→List Part→Prop
  | _, [] => True
  | h, p :: ps => ∃ h0 hs, p.hops = h0 :: hs ∧ h0.asn = h.asn ∧ chain (lastHop h0 hs) ps
theorem go_raw:∀ (ps:List Part) (X:List Step) (h:Hop) (k inn:Int),chain h ps→partsGo (X ++ [⟨h.asn,inn,hopEg k h⟩]) ps=X ++ wParts hopEg ps k inn h
 | [], _, _, _, _, _ => rfl
 | p :: ps, X, h, k, inn, hc => by
  obtain⟨h0,hs,hp,ha,hc2⟩:=hc;unfold partsGo wParts;rw [hp];have e:=hopsTo_join p.kind X ⟨h.asn,inn,hopEg k h⟩ h0 hs ha.symm hs.length (Ae _);rw [List.length_cons,e,List.take_length]
  show partsGo (X ++ rawHops p.kind inn (h0 :: hs)) ps=_
  obtain⟨Y,il,e1,e2⟩:=raw_split p.kind hs h0 inn;rw [e1,e2,← List.append_assoc,go_raw ps (X ++ Y) _ p.kind il hc2,List.append_assoc]
theorem parts_raw (p:Part) (ps:List Part) (h0:Hop) (hs:List Hop) (hp:p.hops=h0 :: hs) (hc:chain (lastHop h0 hs) ps):partsTo (p :: ps) (p :: ps).length=wHops (wParts hopEg ps) p.kind (hopIn p.kind h0) (h0 :: hs):=by
 have h:=partsTo_go ps [p] (by simp);rw [List.singleton_append,List.length_singleton] at h;rw [show(p :: ps).length=1+ps.length by simp;omega,h,partsTo_succ (by simp)]
 show partsGo (hopsTo false p.kind [] p.hops p.hops.length) ps=_
 rw [hopsTo_first p.kind p.hops _ (Ae _),List.take_length,hp]
 show partsGo (rawHops p.kind (hopIn p.kind h0) (h0 :: hs)) ps=_
 obtain⟨Y,il,e1,e2⟩:=raw_split p.kind hs h0 (hopIn p.kind h0);rw [e1,e2,go_raw ps Y _ p.kind il hc]
theorem endsIn_cons (s:Step) (l:List Step):endsIn (s :: l)=⟨s.asn,0,s.eg⟩ :: l:=by simp [endsIn]
theorem endsEg_cons (s:Step) (l:List Step) (h:l≠[]):endsEg (s :: l)=s :: endsEg l:=by
 cases l with
 | nil => exact absurd rfl h
 | cons a l => simp [endsEg]
theorem wHops_ne {cont:Int→Int→Hop→List Step} (hc:∀ k i h,cont k i h≠[]) {k inn:Int} {h:Hop} {hs:List Hop}:wHops cont k inn (h :: hs)≠[]:=by
 cases hs with
 | nil => exact hc _ _ _
 | cons a l => simp [wHops]
theorem wParts_ne (z:Int→Hop→Int):∀ (ps:List Part) (h:Hop),chain h ps→∀ k i h',wParts z ps k i h'≠[]
 | [], _, _, _, _, _ => by simp [wParts]
 | p :: ps, h, hc, k, i, h' => by
  obtain⟨h0,hs,hp,_,hc2⟩:=hc;unfold wParts;rw [hp];exact wHops_ne (wParts_ne z ps _ hc2)
theorem wHops_in {cont:Int→Int→Hop→List Step} (hc:∀ k i h,endsIn (cont k i h)=cont k 0 h) (k inn:Int) (h:Hop) (hs:List Hop):endsIn (wHops cont k inn (h :: hs))=wHops cont k 0 (h :: hs):=by
 cases hs with
 | nil => exact hc _ _ _
 | cons a l => exact endsIn_cons _ _
theorem wParts_in (z:Int→Hop→Int):∀ (ps:List Part) (h:Hop),chain h ps→∀ k i h',endsIn (wParts z ps k i h')=wParts z ps k 0 h'
 | [], _, _, _, _, _ => by simp [wParts, endsIn]
 | p :: ps, h, hc, k, i, h' => by
  obtain⟨h0,hs,hp,_,hc2⟩:=hc;unfold wParts;rw [hp];exact wHops_in (wParts_in z ps _ hc2) _ _ _ _
theorem wHops_eg {c1 c2:Int→Int→Hop→List Step} (hn:∀ k i h,c1 k i h≠[]) (hc:∀ k i h,endsEg (c1 k i h)=c2 k i h) (k:Int):∀ (hs:List Hop) (inn:Int) (h:Hop),endsEg (wHops c1 k inn (h :: hs))=wHops c2 k inn (h :: hs)
 | [], _, _ => hc _ _ _
 | a :: hs, inn, h => by
  show endsEg (_ :: wHops c1 k (hopIn k a) (a :: hs))=_ :: wHops c2 k (hopIn k a) (a :: hs)
  rw [endsEg_cons _ _ (wHops_ne hn),wHops_eg hn hc k hs]
theorem wParts_eg (z:Int→Hop→Int):∀ (ps:List Part) (h:Hop),chain h ps→∀ k i h',endsEg (wParts z ps k i h')=wParts (fun _ _=>0) ps k i h'
 | [], _, _, _, _, _ => by simp [wParts, endsEg]
 | p :: ps, h, hc, k, i, h' => by
  obtain⟨h0,hs,hp,_,hc2⟩:=hc;unfold wParts;rw [hp];exact wHops_eg (wParts_ne z ps _ hc2) (wParts_eg z ps _ hc2) _ _ _ _
theorem steps_walk (p:Part) (ps:List Part) (h0:Hop) (hs:List Hop) (hp:p.hops=h0 :: hs) (hc:chain (lastHop h0 hs) ps):pathSteps (p :: ps)=wHops (wParts (fun _ _=>0) ps) p.kind 0 (h0 :: hs):=by
 unfold pathSteps;rw [parts_raw p ps h0 hs hp hc,wHops_in (wParts_in hopEg ps _ hc),wHops_eg (wParts_ne hopEg ps _ hc) (wParts_eg hopEg ps _ hc)]
theorem walkAt_ne {t:Topo}:∀ (n:Nat) (x:Pkt) (inn:Int),GoodP t x.path.parts→hasHop x=true→x.path.parts.length≤n+x.pi.toNat→walkAt x inn≠[]
 | 0, x, _, _, h, hn => by have := (Cb.1 h).2.1; omega
 | n + 1, x, inn, G, h, hn => by
  by_cases hl:lastOf x=true
  ·
   by_cases he:x.path.parts.length≤x.pi.toNat+1
   ·
    rw [walk_end inn h hl he];simp
   rw [walk_part inn 0 h hl (by omega)];have hp:=part_pos 0 G h hl (by omega);have h0:=(Cb.1 h).1;exact walkAt_ne n { x with pi:=x.pi+1,hi:=0,beta:=0 } inn G hp.1 (by show x.path.parts.length≤n+(x.pi+1).toNat;omega)
  rw [walk_hop inn h hl];simp
theorem wHops_len {cont:Int→Int→Hop→List Step} {m:Nat} (hc:∀ k i h,(cont k i h).length≤m) (k:Int):∀ (hs:List Hop) (inn:Int),(wHops cont k inn hs).length≤hs.length+m
 | [], _ => by simp [wHops]
 | [h], inn => by have := hc k inn h; simp only [wHops, List.length_singleton]; omega
 | h :: h' :: hs, inn => by
  have:=wHops_len hc k (h' :: hs) (hopIn k h');simp only [wHops,List.length_cons] at this ⊢
  omega
theorem wParts_len (z:Int→Hop→Int):∀ (ps:List Part) (k i:Int) (h:Hop),(wParts z ps k i h).length≤hopsN ps+1
 | [], _, _, _ => by simp [wParts]
 | p :: ps, k, i, h => by
  have h1:=wHops_len (wParts_len z ps) p.kind p.hops i;have h2:hopsN (p :: ps)=p.hops.length+hopsN ps:=by simp [hopsN,Part.size]
  unfold wParts;omega
theorem hopsN_le8 {m:Nat}:∀ (ps:List Part),(∀ p∈ps,p.hops.length≤m)→hopsN ps≤m * ps.length
 | [], _ => by simp [hopsN]
 | p :: ps, h => by
  have h1:=hopsN_le8 ps (fun q hq=>h q (by simp [hq]));have h2:=h p (by simp);have h3:hopsN (p :: ps)=p.hops.length+hopsN ps:=by simp [hopsN,Part.size]
  rw [h3,List.length_cons,Nat.mul_succ];omega
theorem walk_short {t:Topo} {x:Pkt} (inn:Int) (h:simple t x.path=true):(walkAt x inn).length≤30:=by
 have hw:wfPath t x.path=true:=by unfold simple at h;simp only [Bool.and_eq_true] at h;exact h.1
 unfold wfPath at hw;simp only [Bool.and_eq_true] at hw;have hl:=(Bk.1 hw.1).2;have hp:=allTo_true.1 hw.2
 have hb:∀ j,j<x.path.parts.length→(partAt x.path.parts j).hops.length≤8:=fun j hj=>by
  have:=hp j hj;unfold partOk validPart hopsOk at this;simp only [Bool.and_eq_true] at this;have:=(Bk.1 this.1.1.1.1.2.1).2;omega
 have h1:=wHops_len (wParts_len (fun _ _=>0) (restP x)) (curPart x).kind (restH x) inn
 have h2:(restH x).length≤8:=by
  unfold restH;rw [List.length_drop]
  by_cases hj:x.pi.toNat<x.path.parts.length
  ·
   have:=hb _ hj;unfold curPart;omega
  unfold curPart partAt;rw [List.getElem?_eq_none (by omega)]
  simp
 have h3 : hopsN (restP x) ≤ 8 * (restP x).length := hopsN_le8 _ (fun p hm => by
  obtain ⟨j, hj, rfl⟩ := List.getElem_of_mem (List.mem_of_mem_drop hm); have := hb j hj
  rwa [Cf hj] at this)
 have h4:(restP x).length≤2:=by unfold restP;rw [List.length_drop];omega
 unfold walkAt;omega
theorem vp_move {x z:Pkt} (h:validPkt x=true) (e1:z.kind=x.kind) (e2:z.path=x.path) (e3:z.src=x.src) (e4:z.dst=x.dst) (e5:z.rid=x.rid) (e6:z.seq=x.seq) (e7:z.pay=x.pay) (hh:hasHop z=true) (hb:isRes z.beta=true):validPkt z=true:=by
 unfold validPkt at h ⊢
 rw [e1,e2,e3,e4,e5,e6,e7,hh,hb];simp only [Bool.and_eq_true] at h ⊢
 obtain⟨⟨⟨⟨⟨⟨⟨⟨⟨a1,a2⟩,a3⟩,a4⟩,a5⟩,a6⟩,a7⟩,a8⟩,a9⟩,a10⟩:=h;exact⟨⟨⟨⟨⟨⟨⟨⟨⟨a1,a2⟩,trivial⟩,trivial⟩,a5⟩,a6⟩,a7⟩,a8⟩,a9⟩,a10⟩
theorem verCur_rest (t:Topo) (x:Pkt):(verCur t x).kind=x.kind∧(verCur t x).rid=x.rid∧(verCur t x).seq=x.seq∧(verCur t x).pay=x.pay:=by unfold verCur;split <;> exact⟨rfl,rfl,rfl,rfl⟩
theorem adv_rest (x:Pkt):(advance x).kind=x.kind∧(advance x).rid=x.rid∧(advance x).seq=x.seq∧(advance x).pay=x.pay∧(advance x).src=x.src∧(advance x).dst=x.dst∧(advance x).path=x.path:=by
 unfold advance;split
 ·
  exact⟨rfl,rfl,rfl,rfl,rfl,rfl,rfl⟩
 split <;> exact⟨rfl,rfl,rfl,rfl,rfl,rfl,rfl⟩
theorem chk_rest (t:Topo) (now:Int):∀ (f:Nat) (x:Pkt),(chkAll t now f x).2.kind=x.kind∧(chkAll t now f x).2.rid=x.rid∧(chkAll t now f x).2.seq=x.seq∧(chkAll t now f x).2.pay=x.pay∧(chkAll t now f x).2.src=x.src∧(chkAll t now f x).2.dst=x.dst
 | 0, x => by
  obtain⟨a1,a2,a3,a4⟩:=verCur_rest t x;obtain⟨_,_,_,b1,b2⟩:=verCur_pos t x;exact⟨a1,a2,a3,a4,b2,b1⟩
 | f + 1, x => by
  obtain⟨a1,a2,a3,a4⟩:=verCur_rest t x;obtain⟨_,_,_,b1,b2⟩:=verCur_pos t x;unfold chkAll
  split
  ·
   obtain⟨c1,c2,c3,c4,c5,c6⟩:=chk_rest t now f (advance (verCur t x));obtain⟨d1,d2,d3,d4,d5,d6,_⟩:=adv_rest (verCur t x);exact⟨c1.trans (d1.trans a1),c2.trans (d2.trans a2),c3.trans (d3.trans a3),c4.trans (d4.trans a4),c5.trans (d5.trans b2),c6.trans (d6.trans b1)⟩
  exact⟨a1,a2,a3,a4,b2,b1⟩
theorem betaTo_res {x:Part} {k:Nat} (h:k<x.hops.length):isRes (betaTo x (k+1))=true:=by
 rw [betaTo_succ h];split;exact subMod_res _ _;exact addMod_res _ _
theorem trav_res (t:Topo) (now:Int) (dead:List Int) (hdead:∀ r eg,inSet (failedIfs t dead r) eg=false):∀ (f:Nat) (r inn:Int) (x:Pkt) (l:List Step),
  validPkt x=true→simple t x.path=true→betaOk x→curAs x=r→inn=wantIn x→(∀ s∈walkAt x inn,stepOk t s=true)→(∀ s,(walkAt x inn).getLast?=some s→s.asn=x.dst)→(walkAt x inn).length≤f →
  ((trav t now dead f r inn x l).code=1∧(trav t now dead f r inn x l).steps=l ++ walkAt x inn∧(trav t now dead f r inn x l).pkt.path=x.path) ∨
   ((trav t now dead f r inn x l).code=4∧∃ j i,validAt x.path.parts j i∧verAt t x.path.parts j i=false)∨((trav t now dead f r inn x l).code=5∧∃ j i,validAt x.path.parts j i∧timeAt now x.path.parts j i=false)
 | 0, r, inn, x, l, hvp, hs, _, _, _, _, _, hl => absurd (List.eq_nil_of_length_eq_zero (Nat.le_zero.1 hl)) (walkAt_ne _ x inn (good_of_simple hs) (vp_hop hvp) (Nat.le_add_right _ _))
 | f + 1, r, inn, x, l, hvp, hs, hb, hr, hin, hst, hdst, hl => by
  have hx:=vp_hop hvp;have G:=good_of_simple hs;have h1:¬ (!(validPkt x && simple t x.path && (curAs x == r)))=true:=by rw [hvp,hs,hr];simp
  have h2:¬ (inn != wantIn x)=true:=by rw [hin];simp
  have hcr:=chk_res (t:=t) (now:=now) x.path.parts.length x G hx hb (by omega)
  have fwd : forward t r now (failedIfs t dead r) inn x = (if (chkAll t now x.path.parts.length x).1 != 0 then ⟨(chkAll t now x.path.parts.length x).1, 0, x⟩
   else if atLast (chkAll t now x.path.parts.length x).2 then (if (chkAll t now x.path.parts.length x).2.dst == r then ⟨1, 0, (chkAll t now x.path.parts.length x).2⟩ else ⟨2, 0, x⟩)
   else if !(stepOk t ⟨r, inn, partEg (curPart (chkAll t now x.path.parts.length x).2) (chkAll t now x.path.parts.length x).2.hi⟩) then ⟨6, 0, x⟩
   else if inSet (failedIfs t dead r) (partEg (curPart (chkAll t now x.path.parts.length x).2) (chkAll t now x.path.parts.length x).2.hi) then ⟨7, 0, x⟩
   else ⟨0, partEg (curPart (chkAll t now x.path.parts.length x).2) (chkAll t now x.path.parts.length x).2.hi, advance (chkAll t now x.path.parts.length x).2⟩ : Vd) := by
   unfold forward;rw [if_neg h1,if_neg h2]
  rcases hcr with ⟨r1,r2,_⟩ | ⟨r1,r2⟩ | ⟨r1,r2⟩
  ·
   obtain⟨hy1,hy2,hy3,hy4,hy5,hy6⟩:=chk_walk x.path.parts.length x G hx r1 (by omega);obtain⟨k1,k2,k3,k4,k5,k6⟩:=chk_rest t now x.path.parts.length x;rw [if_neg (by rw [r1];decide)] at fwd;generalize (chkAll t now x.path.parts.length x).2=y at *;have Gy:GoodP t y.path.parts:=by rw [hy1];exact G
   have hyr:(curHop y).asn=r:=by rw [← curAs_of hy3,hy4,hr]
   by_cases hat:atLast y=true
   ·
    obtain⟨hla,hfi⟩:=(atLast_iff Gy hy3).1 hat;have hw:walkAt x inn=[⟨r,inn,0⟩]:=by rw [← hy5,walk_end inn hy3 hla hfi,hyr]
    have hd:=hdst ⟨r,inn,0⟩ (by rw [hw];rfl);rw [if_pos hat,if_pos (by rw [k6,beq_iff_eq];exact hd.symm)] at fwd
    left
    rw [trav_del fwd,hw];exact⟨rfl,rfl,hy1⟩
   have hla:¬ lastOf y=true:=fun e=>hat (hy6 e)
   have hadv:=adv_hop Gy hy3 hla;obtain⟨hp0,hp1,hi0,hi1⟩:=Cb.1 hy3
   have hlt:y.hi.toNat+1<(curPart y).hops.length:=by
    have h9:¬ y.hi.toNat+1=(curPart y).hops.length:=fun e=>hla ((lastOf_iff hy3).2 e)
    omega
   have heg:partEg (curPart y) y.hi=hopEg (curPart y).kind (curHop y):=by
    have:=partEg_at (p:=curPart y) hi1;rw [show((y.hi.toNat:Nat):Int)=y.hi by omega] at this;rw [this];unfold curHop;rw [Bz hi1]
   have hw:=hy5 inn;rw [walk_hop inn hy3 hla,hyr,← heg] at hw;have hs1:=hst ⟨r,inn,partEg (curPart y) y.hi⟩ (by rw [← hw];simp);rw [if_neg hat,hs1,hdead,hadv] at fwd;simp only [Bool.not_true,Bool.false_eq_true,if_false] at fwd;obtain⟨_,_,_,_,_,_,hg⟩:=fw_ok fwd (.inl rfl);obtain⟨e1,e2,e3,e4,e5,_⟩:=hg rfl;rw [trav_go fwd,e2];rw [e1,List.length_cons] at hl;have hne:walkAt { y with hi:=y.hi+1 } (wantIn { y with hi:=y.hi+1 })≠[]:=walkAt_ne _ _ _ (by rw [e4];exact G) e3 (Nat.le_add_right _ _);have hbz:betaOk { y with hi:=y.hi+1 }:=beta_next hi0 r2 rfl;have hres:isRes y.beta=true:=by rw [r2];exact betaTo_res (by omega)
   have ih:=trav_res t now dead hdead f (curAs { y with hi:=y.hi+1 }) (wantIn { y with hi:=y.hi+1 }) { y with hi:=y.hi+1 } (l ++ [⟨r,inn,partEg (curPart y) y.hi⟩])
    (vp_move hvp k1 hy1 k5 k6 k2 k3 k4 e3 hres) (by rw [e4];exact hs) hbz rfl rfl (fun s hm=>hst s (by rw [e1];exact List.mem_cons_of_mem _ hm))
    (fun s he => by
     rw [e5]; refine hdst s ?_; rw [e1]
     cases hq : walkAt { y with hi := y.hi + 1 } (wantIn { y with hi := y.hi + 1 }) with
     | nil => exact absurd hq hne
     | cons a b => rw [hq] at he; rw [List.getLast?_cons_cons]; exact he) (by omega)
   have e4':=e4;generalize ({ y with hi:=y.hi+1 }:Pkt)=z at *;rw [e4'] at ih
   rcases ih with ⟨i1,i2,i3⟩ | ih | ih
   ·
    exact .inl ⟨i1,by rw [i2,e1,List.append_assoc];rfl,i3⟩
   ·
    exact .inr (.inl ih)
   exact .inr (.inr ih)
  ·
   rw [if_pos (by rw [r1];decide),r1] at fwd
   right;left
   rw [trav_bad fwd (by decide) (by decide)];exact⟨rfl,r2⟩
  rw [if_pos (by rw [r1];decide),r1] at fwd
  right;right
  rw [trav_bad fwd (by decide) (by decide)];exact⟨rfl,r2⟩
theorem PartGood.enc {x:Part} (h:PartGood x):encPart x=true:=by
 unfold encPart hopsEnc;simp only [Bool.and_eq_true,inR_true,decide_eq_true_eq,List.all_eq_true];exact⟨⟨⟨h.kind,by have:=h.ts;omega⟩,h.beta⟩,by have:=h.len;omega,fun y hy=>(h.hops y hy).1⟩
theorem PthDrawn.enc {t:Topo} (T:TopoOk t) {p:Pth} (h:PthDrawn t p):encPath p=true:=by
 unfold encPath;simp only [Bool.and_eq_true,decide_eq_true_eq,List.all_eq_true];exact⟨h.len,fun x hx=>((h.part x hx).good T).enc⟩
def digOf (n:Int):Int:=48+(if n.tmod 10<0 then -(n.tmod 10) else n.tmod 10)
def digs:Nat→Int→List Int→List Int
  | 0, _, acc => acc
  | f + 1, n, acc => if wrap64 (n.tdiv 10) = 0 then digOf n :: acc else digs f (wrap64 (n.tdiv 10)) (digOf n :: acc)
def fmtB (n:Int):List Int:=if n<0 then 45 :: digs 21 n [] else digs 21 n []
theorem tmod10 (n:Int):-9≤n.tmod 10∧n.tmod 10≤9:=by
 have h1:=Int.tmod_lt_of_pos n (show(0:Int)<10 by decide);have h2:=Int.tmod_lt_of_pos (-n) (show(0:Int)<10 by decide);rw [Int.neg_tmod] at h2;omega
theorem digOf_bd (n:Int):48≤digOf n∧digOf n≤57:=by
 have:=tmod10 n;unfold digOf;split <;> omega
theorem tdiv10_bd {n:Int} {f:Nat} (h1:-(10:Int) ^ (f+1)<n) (h2:n<(10:Int) ^ (f+1)):-(10:Int) ^ f<n.tdiv 10∧n.tdiv 10<(10:Int) ^ f:=by
 have e:n=n.tmod 10+10 * n.tdiv 10:=(Int.tmod_add_mul_tdiv n 10).symm;have h:=tmod10 n;rw [Int.pow_succ] at h1 h2;generalize (10:Int) ^ f=p at *
 constructor
 ·
  have hs:n.tdiv 10 * 10=n - n.tmod 10:=by omega
  rcases Int.lt_or_le n 0 with hn | hn
  ·
   have:n.tmod 10≤0:=by
    have:=Int.tmod_nonneg 10 (show(0:Int)≤-n by omega);rw [Int.neg_tmod] at this;omega
   omega
  have:=Int.tdiv_nonneg hn (show(0:Int)≤10 by decide);omega
 rcases Int.lt_or_le n 0 with hn | hn
 ·
  have:n.tdiv 10≤0:=by
   have h9:=Int.tdiv_nonneg (show(0:Int)≤-n by omega) (show(0:Int)≤10 by decide);rw [Int.neg_tdiv] at h9;omega
  omega
 have:0≤n.tmod 10:=Int.tmod_nonneg 10 hn;omega
theorem i64_pow {n:Int} (h:I64 n):-(10:Int) ^ 20<n∧n<(10:Int) ^ 20:=by
 obtain⟨h1,h2⟩:=h;rw [show(10:Int) ^ 20=100000000000000000000 by decide];omega
theorem wrap_i64 (n:Int):I64 (wrap64 n):=by unfold I64 wrap64;omega
def DB (f:Nat) (m:Int):Prop:=f=21∨(I64 m∧f≤20∧-(10:Int) ^ f<m∧m<(10:Int) ^ f)
theorem DB.next {f:Nat} {m:Int} (h:DB (f+1) m):DB f (wrap64 (m.tdiv 10)):=by
 rcases h with h | ⟨⟨h1,h2⟩,h3,h4,h5⟩
 ·
  obtain rfl:f=20:=by omega
  exact .inr ⟨wrap_i64 _,by omega,i64_pow (wrap_i64 _)⟩
 have e:m=m.tmod 10+10 * m.tdiv 10:=(Int.tmod_add_mul_tdiv m 10).symm;have h:=tmod10 m;have hw:wrap64 (m.tdiv 10)=m.tdiv 10:=by unfold wrap64;omega
 rw [hw];exact .inr ⟨⟨by omega,by omega⟩,by omega,tdiv10_bd h4 h5⟩
theorem DB.zero {m:Int} (h:DB 0 m):m=0:=by
 rcases h with h | ⟨_,_,h4,h5⟩
 ·
  omega
 simp only [Int.pow_zero] at h4 h5;omega
theorem digs_len:∀ (f:Nat) (n:Int) (acc:List Int),(digs f n acc).length≤f+acc.length
 | 0, _, _ => by simp [digs]
 | f + 1, n, acc => by
  unfold digs
  split
  ·
   simp;omega
  have:=digs_len f (wrap64 (n.tdiv 10)) (digOf n :: acc);simp at this ⊢;omega
theorem fmtB_len (n:Int):(fmtB n).length≤22:=by
 have:=digs_len 21 n [];unfold fmtB;split <;> simp at this ⊢ <;> omega
def asB (t:Topo) (r:Int):List Int:=if isAs t r then fmtB (asAt t r).isd ++ [45] ++ fmtB r else [63]
def stepB (t:Topo) (s:Step):List Int:=fmtB s.ing ++ [62] ++ asB t s.asn ++ [62] ++ fmtB s.eg
def verdictB (n:Int):List Int:=
  if n=0 then [102,111,114,119,97,114,100] else if n=1 then [100,101,108,105,118,101,114] else if n=2 then [109,97,108,102,111,114,109,101,100]
  else if n=3 then [105,110,103,114,101,115,115] else if n=4 then [109,97,99] else if n=5 then [101,120,112,105,114,101,100] else if n=6 then [116,114,97,110,115,105,116]
  else if n=7 then [108,105,110,107,100,111,119,110] else []
def stepsB (t:Topo) (l:List Step):List Int:=l.flatMap fun s=>32 :: stepB t s
def traceB (t:Topo) (w:Trc):List Int:=verdictB w.code ++ stepsB t w.steps
theorem strOf_app (a b:List Int):strOfNums (a ++ b)=strOfNums a ++ strOfNums b:=by
 unfold strOfNums
 apply ByteArray.ext
 simp
end
section
open Go.ChangeShapes Go.WideShapes Go.ChangeAt Go.RowKit Go.Deep
set_option maxRecDepth 100000
set_option maxHeartbeats 4000000
theorem ret_str {a b:ByteArray} (h:a=b):Ending.returned (.string a)=.returned (.string b):=by rw [h]
theorem verdictB_no {n:Int} (h:inR n 0 7=false):verdictB n=[]:=by
 have h1:¬ (0≤n∧n≤7):=fun h2=>by rw [Bk.2 h2] at h;cases h
 unfold verdictB;rw [if_neg (by omega),if_neg (by omega),if_neg (by omega),if_neg (by omega),if_neg (by omega),if_neg (by omega),if_neg (by omega),if_neg (by omega)]
theorem i_VerdictName (n:Int) (w:World) :
  Calls Tryz.prog 60 #[.int .i64 n] w fun e w'=>e=.returned (.string (strOfNums (verdictB n)))∧Ext w w':=by
 go_enter Tryz.func60,Tryz.ntmps60
 go_wp2_with fail
 refine(i_InRange _ _ _ _).mono ?_;rintro e _ ⟨rfl,rfl⟩
 cases h:inR n 0 7
 ·
  have HV:=Ac (verdictB_no h)
  go_wp2_with fail
  go_ret
  exact⟨ret_str (by rw [HV.out];rfl),(Ab _)⟩
 have h2:=Bk.1 h;have h3:n=0∨n=1∨n=2∨n=3∨n=4∨n=5∨n=6∨n=7:=by omega
 clear h h2
 rcases h3 with rfl | rfl | rfl | rfl | rfl | rfl | rfl | rfl
 ·
  have ix:∀ w:World,(Instr.index 144 (.agg #[.string ⟨#[102,111,114,119,97,114,100]⟩,.string ⟨#[100,101,108,105,118,101,114]⟩,.string ⟨#[109,97,108,102,111,114,109,101,100]⟩,.string ⟨#[105,110,103,114,101,115,115]⟩,.string ⟨#[109,97,99]⟩,.string ⟨#[101,120,112,105,114,101,100]⟩,.string ⟨#[116,114,97,110,115,105,116]⟩,.string ⟨#[108,105,110,107,100,111,119,110]⟩]) (.int .i64 0)).run Tryz.prog w=.ok (.string ⟨#[102,111,114,119,97,114,100]⟩) w:=fun _=>by kernel_rfl
  go_wp2_with fail
  go_ret
  exact⟨ret_str (by rfl),(Ab _)⟩
 ·
  have ix:∀ w:World,(Instr.index 144 (.agg #[.string ⟨#[102,111,114,119,97,114,100]⟩,.string ⟨#[100,101,108,105,118,101,114]⟩,.string ⟨#[109,97,108,102,111,114,109,101,100]⟩,.string ⟨#[105,110,103,114,101,115,115]⟩,.string ⟨#[109,97,99]⟩,.string ⟨#[101,120,112,105,114,101,100]⟩,.string ⟨#[116,114,97,110,115,105,116]⟩,.string ⟨#[108,105,110,107,100,111,119,110]⟩]) (.int .i64 1)).run Tryz.prog w=.ok (.string ⟨#[100,101,108,105,118,101,114]⟩) w:=fun _=>by kernel_rfl
  go_wp2_with fail
  go_ret
  exact⟨ret_str (by rfl),(Ab _)⟩
 ·
  have ix:∀ w:World,(Instr.index 144 (.agg #[.string ⟨#[102,111,114,119,97,114,100]⟩,.string ⟨#[100,101,108,105,118,101,114]⟩,.string ⟨#[109,97,108,102,111,114,109,101,100]⟩,.string ⟨#[105,110,103,114,101,115,115]⟩,.string ⟨#[109,97,99]⟩,.string ⟨#[101,120,112,105,114,101,100]⟩,.string ⟨#[116,114,97,110,115,105,116]⟩,.string ⟨#[108,105,110,107,100,111,119,110]⟩]) (.int .i64 2)).run Tryz.prog w=.ok (.string ⟨#[109,97,108,102,111,114,109,101,100]⟩) w:=fun _=>by kernel_rfl
  go_wp2_with fail
  go_ret
  exact⟨ret_str (by rfl),(Ab _)⟩
 ·
  have ix:∀ w:World,(Instr.index 144 (.agg #[.string ⟨#[102,111,114,119,97,114,100]⟩,.string ⟨#[100,101,108,105,118,101,114]⟩,.string ⟨#[109,97,108,102,111,114,109,101,100]⟩,.string ⟨#[105,110,103,114,101,115,115]⟩,.string ⟨#[109,97,99]⟩,.string ⟨#[101,120,112,105,114,101,100]⟩,.string ⟨#[116,114,97,110,115,105,116]⟩,.string ⟨#[108,105,110,107,100,111,119,110]⟩]) (.int .i64 3)).run Tryz.prog w=.ok (.string ⟨#[105,110,103,114,101,115,115]⟩) w:=fun _=>by kernel_rfl
  go_wp2_with fail
  go_ret
  exact⟨ret_str (by rfl),(Ab _)⟩
 ·
  have ix:∀ w:World,(Instr.index 144 (.agg #[.string ⟨#[102,111,114,119,97,114,100]⟩,.string ⟨#[100,101,108,105,118,101,114]⟩,.string ⟨#[109,97,108,102,111,114,109,101,100]⟩,.string ⟨#[105,110,103,114,101,115,115]⟩,.string ⟨#[109,97,99]⟩,.string ⟨#[101,120,112,105,114,101,100]⟩,.string ⟨#[116,114,97,110,115,105,116]⟩,.string ⟨#[108,105,110,107,100,111,119,110]⟩]) (.int .i64 4)).run Tryz.prog w=.ok (.string ⟨#[109,97,99]⟩) w:=fun _=>by kernel_rfl
  go_wp2_with fail
  go_ret
  exact⟨ret_str (by rfl),(Ab _)⟩
 ·
  have ix:∀ w:World,(Instr.index 144 (.agg #[.string ⟨#[102,111,114,119,97,114,100]⟩,.string ⟨#[100,101,108,105,118,101,114]⟩,.string ⟨#[109,97,108,102,111,114,109,101,100]⟩,.string ⟨#[105,110,103,114,101,115,115]⟩,.string ⟨#[109,97,99]⟩,.string ⟨#[101,120,112,105,114,101,100]⟩,.string ⟨#[116,114,97,110,115,105,116]⟩,.string ⟨#[108,105,110,107,100,111,119,110]⟩]) (.int .i64 5)).run Tryz.prog w=.ok (.string ⟨#[101,120,112,105,114,101,100]⟩) w:=fun _=>by kernel_rfl
  go_wp2_with fail
  go_ret
  exact⟨ret_str (by rfl),(Ab _)⟩
 ·
  have ix:∀ w:World,(Instr.index 144 (.agg #[.string ⟨#[102,111,114,119,97,114,100]⟩,.string ⟨#[100,101,108,105,118,101,114]⟩,.string ⟨#[109,97,108,102,111,114,109,101,100]⟩,.string ⟨#[105,110,103,114,101,115,115]⟩,.string ⟨#[109,97,99]⟩,.string ⟨#[101,120,112,105,114,101,100]⟩,.string ⟨#[116,114,97,110,115,105,116]⟩,.string ⟨#[108,105,110,107,100,111,119,110]⟩]) (.int .i64 6)).run Tryz.prog w=.ok (.string ⟨#[116,114,97,110,115,105,116]⟩) w:=fun _=>by kernel_rfl
  go_wp2_with fail
  go_ret
  exact⟨ret_str (by rfl),(Ab _)⟩
 have ix:∀ w:World,(Instr.index 144 (.agg #[.string ⟨#[102,111,114,119,97,114,100]⟩,.string ⟨#[100,101,108,105,118,101,114]⟩,.string ⟨#[109,97,108,102,111,114,109,101,100]⟩,.string ⟨#[105,110,103,114,101,115,115]⟩,.string ⟨#[109,97,99]⟩,.string ⟨#[101,120,112,105,114,101,100]⟩,.string ⟨#[116,114,97,110,115,105,116]⟩,.string ⟨#[108,105,110,107,100,111,119,110]⟩]) (.int .i64 7)).run Tryz.prog w=.ok (.string ⟨#[108,105,110,107,100,111,119,110]⟩) w:=fun _=>by kernel_rfl
 go_wp2_with fail
 go_ret
 exact⟨ret_str (by rfl),(Ab _)⟩
theorem s_VerdictName (n:Int) (w:World) :
  Calls Tryz.prog 62 #[.int .i64 n] w fun e w'=>e=.returned (.string (strOfNums (verdictB n)))∧Ext w w':=by
 go_enter Tryz.func62,Tryz.ntmps62
 go_wp2_with fail
 refine(s_l1In _ _ _ _).mono ?_;rintro e _ ⟨rfl,rfl⟩
 cases h:inR n 0 7
 ·
  have HV:=Ac (verdictB_no h)
  go_wp2_with fail
  go_ret
  exact⟨ret_str (by rw [HV.out];rfl),((Ab _).alloc _)⟩
 have h2:=Bk.1 h;have h3:n=0∨n=1∨n=2∨n=3∨n=4∨n=5∨n=6∨n=7:=by omega
 clear h h2
 rcases h3 with rfl | rfl | rfl | rfl | rfl | rfl | rfl | rfl
 ·
  go_wp2_with fail
  go_ret
  exact⟨ret_str (by rfl),((Ab _).alloc _)⟩
 ·
  go_wp2_with fail
  go_ret
  exact⟨ret_str (by rfl),((Ab _).alloc _)⟩
 ·
  go_wp2_with fail
  go_ret
  exact⟨ret_str (by rfl),((Ab _).alloc _)⟩
 ·
  go_wp2_with fail
  go_ret
  exact⟨ret_str (by rfl),((Ab _).alloc _)⟩
 ·
  go_wp2_with fail
  go_ret
  exact⟨ret_str (by rfl),((Ab _).alloc _)⟩
 ·
  go_wp2_with fail
  go_ret
  exact⟨ret_str (by rfl),((Ab _).alloc _)⟩
 ·
  go_wp2_with fail
  go_ret
  exact⟨ret_str (by rfl),((Ab _).alloc _)⟩
 go_wp2_with fail
 go_ret
 exact⟨ret_str (by rfl),((Ab _).alloc _)⟩
theorem conv_row {w:World} {o:Option Addr} {cap:Nat} {l:List Int} (h:RdS Rep.byte w (.slice o l.length cap) l) (hl:0<l.length):(convert 22 9 (.slice o l.length cap)).run Tryz.prog w=.ok (.string (strOfNums l)) w:=by
 obtain⟨b,off,rfl,_⟩:=bytes_at h 0 hl;refine run_convert_bytes_arg w _ 5 Tryz.underlying22 Tryz.underlying5 b off l.length cap l rfl (fun i hi=>?_) _ Tryz.underlying9;obtain⟨b2,off2,e,hc⟩:=bytes_at h i hi
 cases e
 rw [hc,List.getD_eq_getElem?_getD,List.getElem?_eq_getElem hi];rfl
theorem str45 (D:List Int):ByteArray.mk #[45] ++ strOfNums D=strOfNums (45 :: D):=(strOf_app [45] D).symm
theorem str_mid (A B:List Int):strOfNums A ++ ByteArray.mk #[45] ++ strOfNums B=strOfNums (A ++ [45] ++ B):=by rw [strOf_app,strOf_app];rfl
theorem strOf_size (l:List Int):(strOfNums l).size=l.length:=by unfold strOfNums;simp [ByteArray.size]
theorem digs_stop {f:Nat} {m:Int} {l:List Int} (h:wrap64 (m.tdiv 10)=0):digs (f+1) m l=digOf m :: l:=by unfold digs;rw [if_pos h]
theorem digs_go {f:Nat} {m:Int} {l:List Int} (h:¬ wrap64 (m.tdiv 10)=0):digs (f+1) m l=digs f (wrap64 (m.tdiv 10)) (digOf m :: l):=by rw [digs,if_neg h]
theorem i_FormatInt (n:Int) (w:World) :
  Calls Tryz.prog 115 #[.int .i64 n] w fun e w'=>e=.returned (.string (strOfNums (fmtB n)))∧Ext w w':=by
 obtain⟨E⟩:=elemByte
 obtain⟨sg,hsg⟩:∃ sg:Bool,decide (n<0)=sg:=⟨_,rfl⟩
 have HSG:=Ac hsg;have HF:Hid (fmtB n=if sg then 45 :: digs 21 n [] else digs 21 n []):=Ac (by unfold fmtB;rw [← hsg];simp)
 go_enter Tryz.func115,Tryz.ntmps115
 go_wp2_with fail
 clear hsg
 go_loopg [0,3] 21 (fun gk nn ds wr=>∃ (f:Nat) (m:Int) (l:List Int),gk=f∧0<f∧nn=.int .i64 m∧Hid (DB f m)∧l.length+f=21∧OwnF byteF 1 w.heap.size 5 wr ds l∧Hid (digs f m l=digs 21 n [])∧Ext w wr)
 case atStart=>exact⟨21,n,[],rfl,by decide,rfl,Ac (.inl rfl),rfl,OwnF.nil _ _ _ _ _,Ac rfl,Ab _⟩
 case round=>
  obtain⟨f,m,l,hgf,hf1,rfl,HP,hlf,hown,HG,hx⟩:=hrel;have HGF:=Ac hgf;clear hgf;obtain⟨oo,co,rfl,_⟩:=(bytes_rep hown).shape;have hlf2:l.length≤21:=by omega
  obtain⟨f',hf'⟩:∃ f',f=f'+1:=⟨f - 1,by omega⟩
  have hlf3:(digOf m :: l).length+f'=21:=by rw [List.length_cons];omega
  have HLF:=Ac hlf3;clear hlf hlf3;have HF1:=Ac hf';clear hf' hf1;have HPD:Hid (DB f' (wrap64 (m.tdiv 10))):=Ac (DB.next (by rw [← HF1.out];exact HP.out));have hdb:=digOf_bd m;have HDB:=Ac hdb;obtain⟨q0,q1⟩:=tmod10 m;have HDG:Hid (digOf m=48+(if m.tmod 10<0 then -(m.tmod 10) else m.tmod 10)):=Ac rfl;clear hdb
  obtain⟨wl,hwl⟩:∃ wl:World,wl=wr.alloc (.cells #[.int .u8 (digOf m)] 5):=⟨_,rfl⟩
  have hol:OwnF byteF 1 wr.heap.size 5 (wr.alloc (.cells #[.int .u8 (digOf m)] 5)) (.slice (some ⟨wr.heap.size,0,none⟩) 1 1) [digOf m]:=OwnF.lit byteFlen wr.heap.size 5 wr [digOf m] (Ae _) (by simp [maxLen]);clear hwl wl;have HOL:=Ac hol;clear hol
  by_cases hneg:m.tmod 10<0
  ·
   have HDN:Hid (digOf m=48+-(m.tmod 10)):=Ac (by rw [HDG.out,if_pos hneg])
   go_wp2_with (at_builtin;rw [← HDN.out];refine appS E byteFlen byteOne rfl _ _ rfl l rfl HOL.out rfl (RdS.ext (bytes_rep hown) ((Ab _).alloc _)) (by simp;omega) (by simp [maxLen];omega) (by simp) ?_)
   intro v' w' ho' hg';have hx':Ext w w':=(hx.alloc (.cells #[.int .u8 (digOf m)] 5)).app hg' HOL.out hx.size;replace ho':=ho'.mono (base':=w.heap.size) hx.size
   obtain⟨D,hD⟩:∃ D,D=digOf m :: l:=⟨_,rfl⟩
   have hDl:D.length+f'=21:=by rw [hD];exact HLF.out
   have hD0:0<D.length:=by rw [hD];simp
   rw [← hD] at ho';have HD:=Ac hD;clear hD hg' hown HOL;obtain⟨o',c',rfl,_⟩:=(bytes_rep ho').shape
   by_cases htd:wrap64 (m.tdiv 10)=0
   ·
    have HDD:Hid (digs 21 n []=D):=Ac (by rw [← HG.out,HF1.out,digs_stop htd,HD.out]);have hcv:=conv_row (bytes_rep ho') hD0
    cases sg
    ·
     go_wp2_with fail
     go_ret
     exact⟨ret_str (by rw [HF.out,HDD.out];rfl),hx'⟩
    have had:¬ 9223372036854775807<1+(strOfNums D).size:=by rw [strOf_size];omega
    go_wp2_with fail
    rw [str45]
    go_ret
    exact⟨ret_str (by rw [HF.out,HDD.out];rfl),hx'⟩
   have hf0:0<f':=by
    rcases Nat.eq_zero_or_pos f' with e | e
    ·
     exfalso
     have h1:=HPD.out;rw [e] at h1;exact htd h1.zero
    exact e
   have HGN:Hid (digs f' (wrap64 (m.tdiv 10)) D=digs 21 n []):=Ac (by rw [HD.out,← digs_go htd,← HF1.out];exact HG.out);have HF0:=Ac hf0;clear hf0
   go_wp2_with fail
   go_roundg (gk - 1)
   case measure=>have h1:=HGF.out;have h2:=HF1.out;omega
   case rel=>exact⟨f',wrap64 (m.tdiv 10),D,by have h1:=HGF.out;have h2:=HF1.out;omega,HF0.out,rfl,HPD,hDl,ho',HGN,hx'⟩
  have HDN:Hid (digOf m=48+m.tmod 10):=Ac (by rw [HDG.out,if_neg hneg])
  go_wp2_with (at_builtin;rw [← HDN.out];refine appS E byteFlen byteOne rfl _ _ rfl l rfl HOL.out rfl (RdS.ext (bytes_rep hown) ((Ab _).alloc _)) (by simp;omega) (by simp [maxLen];omega) (by simp) ?_)
  intro v' w' ho' hg';have hx':Ext w w':=(hx.alloc (.cells #[.int .u8 (digOf m)] 5)).app hg' HOL.out hx.size;replace ho':=ho'.mono (base':=w.heap.size) hx.size
  obtain⟨D,hD⟩:∃ D,D=digOf m :: l:=⟨_,rfl⟩
  have hDl:D.length+f'=21:=by rw [hD];exact HLF.out
  have hD0:0<D.length:=by rw [hD];simp
  rw [← hD] at ho';have HD:=Ac hD;clear hD hg' hown HOL;obtain⟨o',c',rfl,_⟩:=(bytes_rep ho').shape
  by_cases htd:wrap64 (m.tdiv 10)=0
  ·
   have HDD:Hid (digs 21 n []=D):=Ac (by rw [← HG.out,HF1.out,digs_stop htd,HD.out]);have hcv:=conv_row (bytes_rep ho') hD0
   cases sg
   ·
    go_wp2_with fail
    go_ret
    exact⟨ret_str (by rw [HF.out,HDD.out];rfl),hx'⟩
   have had:¬ 9223372036854775807<1+(strOfNums D).size:=by rw [strOf_size];omega
   go_wp2_with fail
   rw [str45]
   go_ret
   exact⟨ret_str (by rw [HF.out,HDD.out];rfl),hx'⟩
  have hf0:0<f':=by
   rcases Nat.eq_zero_or_pos f' with e | e
   ·
    exfalso
    have h1:=HPD.out;rw [e] at h1;exact htd h1.zero
   exact e
  have HGN:Hid (digs f' (wrap64 (m.tdiv 10)) D=digs 21 n []):=Ac (by rw [HD.out,← digs_go htd,← HF1.out];exact HG.out);have HF0:=Ac hf0;clear hf0
  go_wp2_with fail
  go_roundg (gk - 1)
  case measure=>have h1:=HGF.out;have h2:=HF1.out;omega
  case rel=>exact⟨f',wrap64 (m.tdiv 10),D,by have h1:=HGF.out;have h2:=HF1.out;omega,HF0.out,rfl,HPD,hDl,ho',HGN,hx'⟩
theorem fmtB_zero:fmtB 0=[48]:=by simp [fmtB,digs,wrap64,digOf]
theorem s_FormatInt (n:Int) (w:World) :
  Calls Tryz.prog 63 #[.int .i64 n] w fun e w'=>e=.returned (.string (strOfNums (fmtB n)))∧Ext w w':=by
 obtain⟨sg,hsg⟩:∃ sg:Bool,decide (n<0)=sg:=⟨_,rfl⟩
 have HF:Hid (fmtB n=if sg then 45 :: digs 21 n [] else digs 21 n []):=Ac (by unfold fmtB;rw [← hsg];simp);have HSG:=Ac hsg
 by_cases hz:n=0
 ·
  have hz1:(n == 0)=true:=by rw [beq_iff_eq];exact hz
  have HF0:Hid (fmtB n=[48]):=Ac (by rw [hz];exact fmtB_zero);clear hz hsg
  go_enter Tryz.func63,Tryz.ntmps63
  go_wp2_with fail
  go_ret
  exact⟨ret_str (by rw [HF0.out];rfl),Ab _⟩
 have hz1:(n == 0)=false:=by rw [beq_eq_false_iff_ne];exact hz
 clear hsg
 go_enter Tryz.func63,Tryz.ntmps63
 go_wp2_with fail
 go_loopg [3,4] 21 (fun gk ss xx wr=>∃ (f:Nat) (m:Int) (l:List Int),gk=f∧ss=.string (strOfNums l)∧xx=.int .i64 m∧Hid (DB f m)∧l.length+f=21∧Hid ((m=0∧l=digs 21 n [])∨(m≠0∧digs f m l=digs 21 n []))∧Ext w wr)
 case atStart=>exact⟨21,n,[],rfl,rfl,rfl,Ac (.inl rfl),rfl,Ac (.inr ⟨hz,rfl⟩),Ab _⟩
 case round=>
  clear hz hz1;obtain⟨f,m,l,hgf,rfl,rfl,HP,hlf,HG,hx⟩:=hrel;have HGF:=Ac hgf;clear hgf;have hlf2:l.length≤21:=by omega
  have HLF0:=Ac hlf;clear hlf
  by_cases hmz:m=0
  ·
   have HD:Hid (digs 21 n []=l):=Ac (by rcases HG.out with h | h;exact h.2.symm;exact absurd hmz h.1);have hm2:(m != 0)=false:=by simp [hmz]
   have hs9:=HSG.out
   cases sg
   ·
    have hs8:¬ n<0:=by simpa using hs9
    clear hs9
    go_wp2_with fail
    go_ret
    exact⟨ret_str (by rw [HF.out,HD.out];rfl),hx⟩
   have hs8:n<0:=by simpa using hs9
   clear hs9;have had:¬ 9223372036854775807<1+(strOfNums l).size:=by rw [strOf_size];omega
   go_wp2_with fail
   rw [str45]
   go_ret
   exact⟨ret_str (by rw [HF.out,HD.out];rfl),hx⟩
  have hm2:(m != 0)=true:=by simp [hmz]
  have HG2:Hid (digs f m l=digs 21 n []):=Ac (by rcases HG.out with h | h;exact absurd h.1 hmz;exact h.2)
  have hf1:0<f:=by
   rcases Nat.eq_zero_or_pos f with e | e
   ·
    exfalso
    have h1:=HP.out;rw [e] at h1;exact hmz h1.zero
   exact e
  obtain⟨f',hf'⟩:∃ f',f=f'+1:=⟨f - 1,by omega⟩
  have hlf3:(digOf m :: l).length+f'=21:=by have h1:=HLF0.out;rw [List.length_cons];omega
  have HLF:=Ac hlf3;clear hlf3;have HF1:=Ac hf';clear hf' hf1 hmz;have HPD:Hid (DB f' (wrap64 (m.tdiv 10))):=Ac (DB.next (by rw [← HF1.out];exact HP.out));have hdb:=digOf_bd m;have HDB:=Ac hdb;obtain⟨q0,q1⟩:=tmod10 m;have HDG:Hid (digOf m=48+(if m.tmod 10<0 then -(m.tmod 10) else m.tmod 10)):=Ac rfl;clear hdb;have hol:OwnF byteF 1 wr.heap.size 5 (wr.alloc (.cells #[.int .u8 (digOf m)] 5)) (.slice (some ⟨wr.heap.size,0,none⟩) 1 1) [digOf m]:=OwnF.lit byteFlen wr.heap.size 5 wr [digOf m] (Ae _) (by simp [maxLen]);have HCV:Hid ((convert 22 9 (.slice (some ⟨wr.heap.size,0,none⟩) 1 1)).run Tryz.prog (wr.alloc (.cells #[.int .u8 (digOf m)] 5))=.ok (.string (strOfNums [digOf m])) (wr.alloc (.cells #[.int .u8 (digOf m)] 5))):=Ac (conv_row (l:=[digOf m]) (bytes_rep hol) (by simp));clear hol;have HST:Hid (Value.string (strOfNums [digOf m] ++ strOfNums l)=Value.string (strOfNums (digOf m :: l))):=Ac (congrArg Value.string (strOf_app [digOf m] l).symm)
  have HGN : Hid ((wrap64 (m.tdiv 10) = 0 ∧ digOf m :: l = digs 21 n []) ∨ (wrap64 (m.tdiv 10) ≠ 0 ∧ digs f' (wrap64 (m.tdiv 10)) (digOf m :: l) = digs 21 n [])) := Ac (by
   have h1 := HG2.out; rw [HF1.out] at h1
   by_cases h : wrap64 (m.tdiv 10) = 0
   ·
    rw [digs_stop h] at h1; exact .inl ⟨h, h1⟩
   rw [digs_go h] at h1; exact .inr ⟨h, h1⟩)
  by_cases hneg:m.tmod 10<0
  ·
   have HDN:Hid (digOf m=48+-(m.tmod 10)):=Ac (by rw [HDG.out,if_pos hneg]);have hcv:=HCV.out;rw [HDN.out] at hcv;have had:¬ 9223372036854775807<(strOfNums [48+-(m.tmod 10)]).size+(strOfNums l).size:=by rw [strOf_size,strOf_size];simp only [List.length_cons,List.length_nil];omega
   go_wp2_with fail
   go_roundg (gk - 1)
   case measure=>have h1:=HGF.out;have h2:=HF1.out;omega
   case rel=>exact⟨f',wrap64 (m.tdiv 10),digOf m :: l,by have h1:=HGF.out;have h2:=HF1.out;omega,by rw [← HST.out,HDN.out],rfl,HPD,HLF.out,HGN,hx.alloc _⟩
  have HDN:Hid (digOf m=48+m.tmod 10):=Ac (by rw [HDG.out,if_neg hneg]);have hcv:=HCV.out;rw [HDN.out] at hcv;have had:¬ 9223372036854775807<(strOfNums [48+m.tmod 10]).size+(strOfNums l).size:=by rw [strOf_size,strOf_size];simp only [List.length_cons,List.length_nil];omega
  go_wp2_with fail
  go_roundg (gk - 1)
  case measure=>have h1:=HGF.out;have h2:=HF1.out;omega
  case rel=>exact⟨f',wrap64 (m.tdiv 10),digOf m :: l,by have h1:=HGF.out;have h2:=HF1.out;omega,by rw [← HST.out,HDN.out],rfl,HPD,HLF.out,HGN,hx.alloc _⟩
theorem i_FormatAS (t:Topo) (v1 v2:Value) (r:Int) (w:World) (ha:RdS ASd.rep w v1 t.ases) :
  Calls Tryz.prog 116 #[.agg #[v1,v2],.int .i64 r] w fun e w'=>e=.returned (.string (strOfNums (asB t r)))∧Ext w w':=by
 obtain⟨oA,cA,rfl,_⟩:=ha.shape;obtain⟨hx0,HB0⟩:=ea1 w (.cells #[.slice oA t.ases.length cA,v2] 27);replace HB0:=Ac HB0
 go_enter Tryz.func116,Tryz.ntmps116
 have cf1:=blk2 HB0.out
 go_wp2_with fail
 refine(i_isAS t _ _ r _ (ha.ext hx0)).mono ?_;rintro e w1 ⟨rfl,hz1⟩
 cases b1:isAs t r
 ·
  have HE:Hid (asB t r=[63]):=Ac (by unfold asB;rw [b1];rfl)
  try clear cf1
  have cf2:=blk2 (Aa hz1 HB0.out)
  go_wp2_with fail
  go_ret
  exact⟨ret_str (by rw [HE.out];rfl),(hx0.t hz1)⟩
 obtain⟨hr0,hr1⟩:=isAs_lt b1;obtain⟨n,rfl⟩:=Int.eq_ofNat_of_zero_le hr0;have hn:n<t.ases.length:=by simpa using hr1
 have hn2:(n:Int)<t.ases.length:=by omega
 obtain⟨ba,offa,rfl,hc⟩:=ASd.at (ha.ext (hx0.t hz1)) n hn;have HE:Hid (asB t n=fmtB t.ases[n].isd ++ [45] ++ fmtB n):=Ac (by unfold asB;rw [b1,asAt_at hr0 hr1];rfl);have hA:=fmtB_len t.ases[n].isd;have hB:=fmtB_len n
 obtain⟨A,hA9⟩:∃ A,A=fmtB t.ases[n].isd:=⟨_,rfl⟩
 obtain⟨B,hB9⟩:∃ B,B=fmtB n:=⟨_,rfl⟩
 rw [← hA9] at hA HE;rw [← hB9] at hB HE;have HA:=Ac hA9;have HB:=Ac hB9;have hd1:¬ 9223372036854775807<(strOfNums A).size+1:=by rw [strOf_size];omega
 have hd2:¬ 9223372036854775807<(strOfNums A).size+1+(strOfNums B).size:=by rw [strOf_size,strOf_size];omega
 clear hA9 hB9 hA hB hr0 hr1 b1
 try clear cf1
 have cf3:=blk2 (Aa hz1 HB0.out)
 go_wp2_with fail
 refine(i_FormatInt t.ases[n].isd _).mono ?_;rintro e w2 ⟨rfl,hz2⟩;rw [← HA.out]
 try clear cf3
 have cf4:=blk2 (Aa (hz1.t hz2) HB0.out);have cf5:=ASd.at_ext hz2 hc
 go_wp2_with fail
 refine(i_FormatInt n _).mono ?_;rintro e w3 ⟨rfl,hz3⟩;rw [← HB.out]
 try clear cf4
 try clear cf5
 have cf6:=blk2 (Aa ((hz1.t hz2).t hz3) HB0.out);have cf7:=ASd.at_ext (hz2.t hz3) hc
 go_wp2_with fail
 rw [str_mid]
 go_ret
 exact⟨ret_str (by rw [HE.out]),(((hx0.t hz1).t hz2).t hz3)⟩
theorem s_FormatAS (t:Topo) (v1 v2:Value) (r:Int) (w:World) (ha:RdS ASd.rep w v1 t.ases) :
  Calls Tryz.prog 64 #[.agg #[v1,v2],.int .i64 r] w fun e w'=>e=.returned (.string (strOfNums (asB t r)))∧Ext w w':=by
 obtain⟨oA,cA,rfl,_⟩:=ha.shape;obtain⟨hx0,HB0⟩:=ea1 w (.cells #[.slice oA t.ases.length cA,v2] 27);replace HB0:=Ac HB0
 go_enter Tryz.func64,Tryz.ntmps64
 have cf1:=blk2 HB0.out
 go_wp2_with fail
 refine(s_l5Realm t _ _ r _ (ha.ext hx0)).mono ?_;rintro e w1 ⟨rfl,hz1⟩
 cases b1:isAs t r
 ·
  have HE:Hid (asB t r=[63]):=Ac (by unfold asB;rw [b1];rfl)
  try clear cf1
  have cf2:=blk2 (Aa hz1 HB0.out)
  go_wp2_with fail
  go_ret
  exact⟨ret_str (by rw [HE.out];rfl),(hx0.t hz1)⟩
 obtain⟨hr0,hr1⟩:=isAs_lt b1;obtain⟨n,rfl⟩:=Int.eq_ofNat_of_zero_le hr0;have hn:n<t.ases.length:=by simpa using hr1
 have hn2:(n:Int)<t.ases.length:=by omega
 obtain⟨ba,offa,rfl,hc⟩:=ASd.at (ha.ext (hx0.t hz1)) n hn;have HE:Hid (asB t n=fmtB t.ases[n].isd ++ [45] ++ fmtB n):=Ac (by unfold asB;rw [b1,asAt_at hr0 hr1];rfl);have hA:=fmtB_len t.ases[n].isd;have hB:=fmtB_len n
 obtain⟨A,hA9⟩:∃ A,A=fmtB t.ases[n].isd:=⟨_,rfl⟩
 obtain⟨B,hB9⟩:∃ B,B=fmtB n:=⟨_,rfl⟩
 rw [← hA9] at hA HE;rw [← hB9] at hB HE;have HA:=Ac hA9;have HB:=Ac hB9;have hd1:¬ 9223372036854775807<(strOfNums A).size+1:=by rw [strOf_size];omega
 have hd2:¬ 9223372036854775807<(strOfNums A).size+1+(strOfNums B).size:=by rw [strOf_size,strOf_size];omega
 clear hA9 hB9 hA hB hr0 hr1 b1
 try clear cf1
 have cf3:=blk2 (Aa hz1 HB0.out)
 go_wp2_with fail
 refine(s_FormatInt t.ases[n].isd _).mono ?_;rintro e w2 ⟨rfl,hz2⟩;rw [← HA.out]
 try clear cf3
 have cf4:=blk2 (Aa (hz1.t hz2) HB0.out);have cf5:=ASd.at_ext hz2 hc
 go_wp2_with fail
 refine(s_FormatInt n _).mono ?_;rintro e w3 ⟨rfl,hz3⟩;rw [← HB.out]
 try clear cf4
 try clear cf5
 have cf6:=blk2 (Aa ((hz1.t hz2).t hz3) HB0.out);have cf7:=ASd.at_ext (hz2.t hz3) hc
 go_wp2_with fail
 rw [str_mid]
 go_ret
 exact⟨ret_str (by rw [HE.out]),(((hx0.t hz1).t hz2).t hz3)⟩
end
section
open Go.RowKit
def placed (x:Pkt) (j i:Nat):Pkt:={ x with pi:=(j:Int),hi:=(i:Int) }
theorem chain_of {t:Topo} {ps:List Part} (G:GoodP t ps):∀ (n j:Nat) (h:Hop) (hs:List Hop),j+1+n=ps.length→(partAt ps j).hops=h :: hs→chain (lastHop h hs) (ps.drop (j+1))
 | 0, j, h, hs, hn, _ => by rw [List.drop_of_length_le (by omega)]; trivial
 | n + 1, j, h, hs, hn, hh => by
  have hlt:j+1<ps.length:=by omega
  rw [List.drop_eq_getElem_cons hlt];have h1:=G.ne (j+1) hlt;have h2:=G.fol j hlt;have e1:partAt ps (j+1)=ps[j+1]:=Cf hlt
  cases hc:(partAt ps (j+1)).hops with
  | nil => rw [hc] at h1; simp at h1
  | cons h0 hs0 =>
   refine⟨h0,hs0,by rw [← e1];exact hc,?_,chain_of G n (j+1) h0 hs0 (by omega) hc⟩;rw [hc,hh] at h2
   have h3:hopAt (h :: hs) ((h :: hs).length - 1)=lastHop h hs:=by
    unfold lastHop;rw [Bz (by simp),List.getLast_eq_getElem]
   rw [h3] at h2;exact h2.symm
theorem steps_at {t:Topo} {x:Pkt} (G:GoodP t x.path.parts) (hp:0<x.path.parts.length):pathSteps x.path.parts=walkAt (placed x 0 0) 0:=by
 have h0:=G.ne 0 hp;unfold walkAt restP restH curPart placed;simp only [Int.toNat_natCast,List.drop_zero]
 cases hc:(partAt x.path.parts 0).hops with
 | nil => rw [hc] at h0; simp at h0
 | cons h hs =>
  have h1:=chain_of G (x.path.parts.length - 1) 0 h hs (by omega) hc
  have h2:x.path.parts=partAt x.path.parts 0 :: x.path.parts.drop 1:=by
   rw [Cf hp];exact(List.drop_eq_getElem_cons hp) ▸ (List.drop_zero).symm
  have h3:=steps_walk (partAt x.path.parts 0) (x.path.parts.drop 1) h hs hc h1;rw [← h2] at h3;exact h3
theorem walk_first {t:Topo}:∀ (n:Nat) (x:Pkt),GoodP t x.path.parts→hasHop x=true→x.path.parts.length≤n+x.pi.toNat→∃ (e:Int) (l:List Step),∀ inn,walkAt x inn=⟨curAs x,inn,e⟩ :: l
 | 0, x, _, h, hn => by have := (Cb.1 h).2.1; omega
 | n + 1, x, G, h, hn => by
  by_cases hl:lastOf x=true
  ·
   by_cases he:x.path.parts.length≤x.pi.toNat+1
   ·
    exact⟨_,_,fun inn=>by rw [walk_end inn h hl he,curAs_of h]⟩
   have hp:=part_pos 0 G h hl (by omega);have h0:=(Cb.1 h).1;obtain⟨e,l,hw⟩:=walk_first n { x with pi:=x.pi+1,hi:=0,beta:=0 } G hp.1 (by show x.path.parts.length≤n+(x.pi+1).toNat;omega);exact⟨e,l,fun inn=>by rw [walk_part inn 0 h hl (by omega),hw inn,hp.2]⟩
  exact⟨_,_,fun inn=>by rw [walk_hop inn h hl,curAs_of h]⟩
theorem wHops_all {P:Int→Prop} {cont:Int→Int→Hop→List Step} (hc:∀ k i h,P h.asn→∀ s∈cont k i h,P s.asn) (k:Int):∀ (hs:List Hop) (inn:Int),(∀ h∈hs,P h.asn)→∀ s∈wHops cont k inn hs,P s.asn
 | [], _, _, s, hs => by simp [wHops] at hs
 | [h], inn, hh, s, hs => hc k inn h (hh h (by simp)) s hs
 | h :: h' :: l, inn, hh, s, hs => by
  simp only [wHops] at hs
  rcases List.mem_cons.1 hs with rfl | hs
  ·
   exact hh h (by simp)
  exact wHops_all hc k (h' :: l) _ (fun y hy=>hh y (by simp at hy ⊢;exact .inr hy)) s hs
theorem wParts_all {P:Int→Prop} (z:Int→Hop→Int):∀ (ps:List Part),(∀ p∈ps,∀ h∈p.hops,P h.asn)→∀ k i h,P h.asn→∀ s∈wParts z ps k i h,P s.asn
 | [], _, k, i, h, hh, s, hs => by
  simp only [wParts,List.mem_singleton] at hs;rw [hs];exact hh
 | p :: ps, hp, k, i, h, _, s, hs => by
  unfold wParts at hs;exact wHops_all (wParts_all z ps (fun q hq=>hp q (by simp [hq]))) p.kind p.hops i (hp p (by simp)) s hs
theorem enc_part {p:Pth} (h:encPath p=true):p.parts.length≤3∧∀ x∈p.parts,encPart x=true:=by
 unfold encPath at h;simp only [Bool.and_eq_true,decide_eq_true_eq,List.all_eq_true] at h;exact h
theorem enc_hop {x:Part} (h:encPart x=true):isRes x.beta=true∧∀ y∈x.hops,validHop y=true:=by
 unfold encPart hopsEnc at h;simp only [Bool.and_eq_true,decide_eq_true_eq,List.all_eq_true] at h;exact⟨h.1.2,h.2.2⟩
theorem failed_none (t:Topo) (r:Int):failedIfs t [] r=0:=by
 unfold failedIfs;generalize topoIfs t.links r=l
 have:∀ (l:List Int) (s:Int),l.foldl (failStep t [] r) s=s:=by
  intro l
  induction l with
  | nil => intro s; rfl
  | cons a l ih => intro s; rw [List.foldl_cons, ih]; simp [failStep, hasI]
 exact this l 0
theorem inSet_zero (e:Int):inSet 0 e=false:=by
 unfold inSet bitAt;have h:(((0:Int) / 2 ^ e.toNat) % 2 == 1)=false:=by simp
 rw [h];simp
theorem start_ok {t:Topo} {p:Pth} (hs:simple t p=true) (he:encPath p=true) {kind rid seq:Int} {pay:List Int} (h1:1≤kind∧kind≤3) (h2:0≤rid∧rid≤100000) (h3:0≤seq∧seq≤100000) (h4:pay.length≤40) :
  Out t p (newPkt kind p rid seq pay):=by
 have G:=good_of_simple hs;have hw:wfPath t p=true:=by unfold simple at hs;simp only [Bool.and_eq_true] at hs;exact hs.1
 have hlen:0<p.parts.length:=by unfold wfPath at hw;simp only [Bool.and_eq_true] at hw;have:=(Bk.1 hw.1).1;omega
 obtain⟨e1,e2⟩:=enc_part he;have hne:=G.ne 0 hlen;have hh:hasHop (newPkt kind p rid seq pay)=true:=Cb.2 ⟨Int.le_refl _,hlen,Int.le_refl _,hne⟩;have hwalk:walkAt (newPkt kind p rid seq pay) 0=pathSteps p.parts:=(steps_at (x:=newPkt kind p rid seq pay) G hlen).symm;obtain⟨eg,l,hf⟩:=walk_first p.parts.length (newPkt kind p rid seq pay) G hh (Nat.le_add_right _ _);have hps:pathSteps p.parts=⟨curAs (newPkt kind p rid seq pay),0,eg⟩ :: l:=by rw [← hwalk];exact hf 0
 have hpos:0<(pathSteps p.parts).length:=by rw [hps];simp
 have hends:ends p.parts=((pathSteps p.parts)[0].asn,(pathSteps p.parts)[(pathSteps p.parts).length - 1].asn):=endsOf_at hpos
 have hall:∀ s∈pathSteps p.parts,0≤s.asn∧s.asn≤7:=by
  rw [← hwalk];unfold walkAt;have hv:∀ x∈p.parts,∀ y∈x.hops,0≤y.asn∧y.asn≤7:=fun x hx y hy=>vh_asn ((enc_hop (e2 x hx)).2 y hy)
  refine wHops_all (P:=fun a=>0≤a∧a≤7) (wParts_all (P:=fun a=>0≤a∧a≤7) _ (restP (newPkt kind p rid seq pay)) (fun q hq y hy=>hv q (List.mem_of_mem_drop hq) y hy)) _ _ _ (fun y hy=>?_);have hm:y∈(curPart (newPkt kind p rid seq pay)).hops:=List.mem_of_mem_drop hy;have:curPart (newPkt kind p rid seq pay)=p.parts[0]:=Cf hlen;rw [this] at hm;exact hv _ (List.getElem_mem _) y hm
 have hsrc:(newPkt kind p rid seq pay).src=curAs (newPkt kind p rid seq pay):=by
  show(ends p.parts).1=_
  rw [hends];simp only [hps,List.getElem_cons_zero]
 have hb0:beta0 p.parts=p.parts[0].beta:=beta0_at hlen;refine⟨rfl,?_,hsrc.symm,?_,by unfold wantIn newPkt;simp,hwalk,fun s hl=>?_,hh⟩
 ·
  unfold validPkt
  have c1:(newPkt kind p rid seq pay).path.parts.all (fun y=>decide (0<y.hops.length))=true:=by
   rw [List.all_eq_true];intro y hy;obtain⟨j,hj,rfl⟩:=List.getElem_of_mem hy;have hj':j<p.parts.length:=hj;have:=G.ne j hj';rw [Cf hj'] at this;exact decide_eq_true this
  have c2:isRes (newPkt kind p rid seq pay).beta=true:=by show isRes (beta0 p.parts)=true;rw [hb0];exact(enc_hop (e2 _ (List.getElem_mem _))).1
  have c3:0≤(newPkt kind p rid seq pay).src∧(newPkt kind p rid seq pay).src≤7:=by
   show 0≤(ends p.parts).1∧(ends p.parts).1≤7
   rw [hends];exact hall _ (List.getElem_mem _)
  have c4:0≤(newPkt kind p rid seq pay).dst∧(newPkt kind p rid seq pay).dst≤7:=by
   show 0≤(ends p.parts).2∧(ends p.parts).2≤7
   rw [hends];exact hall _ (List.getElem_mem _)
  simp only [Bool.and_eq_true,decide_eq_true_eq];exact⟨⟨⟨⟨⟨⟨⟨⟨⟨Bk.2 h1,he⟩,hh⟩,c2⟩,c1⟩,Bk.2 c3⟩,Bk.2 c4⟩,Bk.2 h2⟩,Bk.2 h3⟩,h4⟩
 ·
  unfold betaOk
  show beta0 p.parts=betaTo (curPart (newPkt kind p rid seq pay)) 0
  rw [hb0];have:curPart (newPkt kind p rid seq pay)=p.parts[0]:=Cf hlen;rw [this];rfl
 show s.asn=(ends p.parts).2
 rw [hends];rw [getLast_at hpos] at hl
 cases hl
 rfl
def allowed (t:Topo) (p:Pth):Prop:=∀ s∈pathSteps p.parts,stepOk t s=true
theorem out_res {t:Topo} {p:Pth} {now:Int} {x:Pkt} (h:Out t p x) (hs:simple t p=true) (ha:allowed t p) :
  ((traverse t now [] x).code=1∧(traverse t now [] x).steps=pathSteps p.parts∧(traverse t now [] x).pkt.path=p) ∨
   ((traverse t now [] x).code=4∧∃ j i,validAt p.parts j i∧verAt t p.parts j i=false)∨((traverse t now [] x).code=5∧∃ j i,validAt p.parts j i∧timeAt now p.parts j i=false):=by
 have hp:=h.path;subst hp;have:=trav_res t now [] (fun r eg=>by rw [failed_none];exact inSet_zero eg) 30 x.src 0 x [] h.vp hs h.beta h.at_ h.want.symm (by rw [h.walk];exact ha) (by rw [h.walk];exact h.dst) (walk_short 0 hs);rw [h.walk,List.nil_append] at this;exact this
theorem walks {t:Topo} {p:Pth} {now:Int} {x:Pkt} (h:Out t p x) (hu:usable t p now=true) (ha:allowed t p) :
  (traverse t now [] x).code=1∧(traverse t now [] x).steps=pathSteps p.parts∧(traverse t now [] x).pkt.path=p:=by
 obtain⟨h1,h2,h3⟩:=usable_of hu
 rcases out_res (now:=now) h h1 ha with r | ⟨_,j,i,hv,r⟩ | ⟨_,j,i,hv,r⟩
 ·
  exact r
 ·
  rw [h2 j i hv] at r;cases r
 rw [h3 j i hv] at r;cases r
end
abbrev Bi := @strOf_size
end Go.Proofs.YteodlcpeoaggbaaGreat
