/- What these laws need: FnOld, FnWalks: What a packet's walk does on a well-formed path: its steps are the path's steps from its place on, as far as it comes. A packet's whole walk: its steps are a first part of the path's steps from its place on; it ends; each step is of an AS that had a valid hop for it. When a packet that began right is delivered: exactly if every hop on its way verifies and is in time, where every AS permits. Parts as they are drawn: of segments whose hops are sealed; they verify, in both directions. -/
import Derived.Test.YteodlcpeoaggbaaGreatKV10
namespace Go.Proofs.YteodlcpeoaggbaaGreat
section
open Go.RowKit
structure GoodP (t : Topo) (ps : List Part) : Prop where
  ne:∀ j,j<ps.length→0<(partAt ps j).hops.length
  fol:∀ j,j+1<ps.length→(hopAt (partAt ps j).hops ((partAt ps j).hops.length - 1)).asn=(hopAt (partAt ps (j+1)).hops 0).asn
  join:∀ j,j<ps.length→∀ i,i+1<(partAt ps j).hops.length→joinAt t (partAt ps j) i=true
  vh:∀ j,j<ps.length→∀ i,i<(partAt ps j).hops.length→validHop (hopAt (partAt ps j).hops i)=true
theorem good_of_wf {t:Topo} {p:Pth} (h:wfPath t p=true):GoodP t p.parts:=by
 unfold wfPath at h;simp only [Bool.and_eq_true] at h;have hp:=allTo_true.1 h.2
 have hv:∀ j,j<p.parts.length→validPart t (partAt p.parts j)=true:=fun j hj=>by
  have:=hp j hj;unfold partOk at this;simp only [Bool.and_eq_true] at this;exact this.1
 have ho:∀ j,j<p.parts.length→hopsOk t (partAt p.parts j).hops=true:=fun j hj=>by
  have:=hv j hj;unfold validPart at this;simp only [Bool.and_eq_true] at this;exact this.1.1.1.2
 refine⟨fun j hj=>?_,fun j hj=>?_,fun j hj i hi=>?_,fun j hj i hi=>?_⟩
 ·
  have:=ho j hj;unfold hopsOk at this;simp only [Bool.and_eq_true] at this;have:=(Bk.1 this.1).1;omega
 ·
  have:=hp (j+1) hj;unfold partOk at this;simp only [Bool.and_eq_true,Nat.add_sub_cancel] at this;have h2:=this.2;simp only [Nat.add_eq_zero_iff,Nat.one_ne_zero,and_false,decide_false,Bool.false_or] at h2;unfold followAt at h2;simp only [Bool.and_eq_true,beq_iff_eq] at h2;exact h2.2
 ·
  have:=hv j hj;unfold validPart at this;simp only [Bool.and_eq_true] at this;exact allTo_true.1 this.2 i (by omega)
 have:=ho j hj;unfold hopsOk at this;simp only [Bool.and_eq_true] at this;have:=allTo_true.1 this.2 i hi;unfold hopFresh at this;simp only [Bool.and_eq_true] at this;exact this.1.1
theorem vh_asn {h:Hop} (hv:validHop h=true):0≤h.asn∧h.asn≤7:=by
 unfold validHop at hv;simp only [Bool.and_eq_true] at hv;exact Bk.1 hv.1.1.1.1.1
def restH (x:Pkt):List Hop:=(curPart x).hops.drop x.hi.toNat
def restP (x:Pkt):List Part:=x.path.parts.drop (x.pi.toNat+1)
def walkAt (x:Pkt) (inn:Int):List Step:=wHops (wParts (fun _ _=>0) (restP x)) (curPart x).kind inn (restH x)
theorem hasHop_iff {x:Pkt}:hasHop x=true↔0≤x.pi∧x.pi.toNat<x.path.parts.length∧0≤x.hi∧x.hi.toNat<(curPart x).hops.length:=by
 unfold hasHop;simp only [Bool.and_eq_true,inR_true]
 constructor
 ·
  rintro ⟨⟨a,b⟩,c,d⟩;refine⟨a,by omega,c,by omega⟩
 rintro ⟨a,b,c,d⟩;exact⟨⟨a,by omega⟩,c,by omega⟩
theorem restH_cons {x:Pkt} (h:hasHop x=true):restH x=curHop x :: (curPart x).hops.drop (x.hi.toNat+1):=by
 obtain⟨_,_,_,hh⟩:=hasHop_iff.1 h;unfold restH curHop;rw [List.drop_eq_getElem_cons hh,Bz hh]
theorem lastOf_iff {x:Pkt} (h:hasHop x=true):lastOf x=true↔x.hi.toNat+1=(curPart x).hops.length:=by
 obtain⟨_,_,h0,hh⟩:=hasHop_iff.1 h;unfold lastOf;rw [beq_iff_eq];omega
theorem walk_end {x:Pkt} (inn:Int) (h:hasHop x=true) (hl:lastOf x=true) (he:x.path.parts.length≤x.pi.toNat+1):walkAt x inn=[⟨(curHop x).asn,inn,0⟩]:=by
 have h1:=(lastOf_iff h).1 hl;unfold walkAt;rw [restH_cons h,List.drop_of_length_le (by omega)];unfold restP;rw [List.drop_of_length_le he];rfl
theorem walk_hop {x:Pkt} (inn:Int) (h:hasHop x=true) (hl:¬ lastOf x=true) :
  walkAt x inn=⟨(curHop x).asn,inn,hopEg (curPart x).kind (curHop x)⟩ :: walkAt { x with hi:=x.hi+1 } (hopIn (curPart x).kind (hopAt (curPart x).hops (x.hi.toNat+1))):=by
 obtain⟨_,_,h0,hh⟩:=hasHop_iff.1 h
 have h1:x.hi.toNat+1<(curPart x).hops.length:=by
  have h9:¬ x.hi.toNat+1=(curPart x).hops.length:=fun e=>hl ((lastOf_iff h).2 e)
  omega
 have e1:(x.hi+1).toNat=x.hi.toNat+1:=by omega
 unfold walkAt;rw [restH_cons h,List.drop_eq_getElem_cons h1]
 show _ :: wHops _ _ _ _=_
 unfold restH restP curPart;simp only [e1];have h2:x.hi.toNat+1<(partAt x.path.parts x.pi.toNat).hops.length:=h1;rw [List.drop_eq_getElem_cons h2,Bz h2];rfl
theorem walk_part {x:Pkt} (inn b:Int) (h:hasHop x=true) (hl:lastOf x=true) (he:x.pi.toNat+1<x.path.parts.length):walkAt x inn=walkAt { x with pi:=x.pi+1,hi:=0,beta:=b } inn:=by
 obtain⟨hp0,_,h0,hh⟩:=hasHop_iff.1 h;have h1:=(lastOf_iff h).1 hl;have e1:(x.pi+1).toNat=x.pi.toNat+1:=by omega
 unfold walkAt;rw [restH_cons h,List.drop_of_length_le (by omega)];unfold restP restH curPart;simp only [e1];rw [List.drop_eq_getElem_cons he,Cf he];rfl
theorem verCur_pos (t:Topo) (x:Pkt):(verCur t x).pi=x.pi∧(verCur t x).hi=x.hi∧(verCur t x).path=x.path∧(verCur t x).dst=x.dst∧(verCur t x).src=x.src:=by
 unfold verCur;split <;> exact⟨rfl,rfl,rfl,rfl,rfl⟩
theorem curAs_of {x:Pkt} (h:hasHop x=true):curAs x=(curHop x).asn:=by unfold curAs;rw [if_pos h]
theorem asn_nn {t:Topo} {x:Pkt} (G:GoodP t x.path.parts) (h:hasHop x=true):0≤(curHop x).asn:=by
 obtain⟨_,hp,_,hh⟩:=hasHop_iff.1 h;exact(vh_asn (G.vh _ hp _ hh)).1
theorem atLast_iff {t:Topo} {x:Pkt} (G:GoodP t x.path.parts) (h:hasHop x=true):atLast x=true↔lastOf x=true∧x.path.parts.length≤x.pi.toNat+1:=by
 obtain⟨h1,h2,_,_⟩:=hasHop_iff.1 h;unfold atLast;rw [curAs_of h];have:=asn_nn G h;simp only [Bool.and_eq_true,decide_eq_true_eq,beq_iff_eq]
 constructor
 ·
  rintro ⟨⟨_,a⟩,b⟩;exact⟨a,by omega⟩
 rintro ⟨a,b⟩;exact⟨⟨this,a⟩,by omega⟩
theorem adv_part {t:Topo} {x:Pkt} (G:GoodP t x.path.parts) (h:hasHop x=true) (hl:lastOf x=true) (he:¬ atLast x=true) :
  advance x={ x with pi:=x.pi+1,hi:=0,beta:=(partAt x.path.parts (x.pi.toNat+1)).beta }∧x.pi.toNat+1<x.path.parts.length:=by
 have h1:=asn_nn G h;have h2:¬ (x.path.parts.length≤x.pi.toNat+1):=fun e=>he ((atLast_iff G h).2 ⟨hl,e⟩)
 refine⟨?_,by omega⟩;unfold advance;rw [curAs_of h,if_neg (by simp only [Bool.or_eq_true,decide_eq_true_eq];rintro (e | e);omega;exact he e),if_pos hl]
theorem adv_hop {t:Topo} {x:Pkt} (G:GoodP t x.path.parts) (h:hasHop x=true) (hl:¬ lastOf x=true):advance x={ x with hi:=x.hi+1 }:=by
 have h1:=asn_nn G h;unfold advance;rw [curAs_of h,if_neg (by simp only [Bool.or_eq_true,decide_eq_true_eq];rintro (e | e);omega;exact hl ((atLast_iff G h).1 e).1),if_neg hl]
theorem part_pos {t:Topo} {x:Pkt} (b:Int) (G:GoodP t x.path.parts) (h:hasHop x=true) (hl:lastOf x=true) (he:x.pi.toNat+1<x.path.parts.length) :
  hasHop { x with pi:=x.pi+1,hi:=0,beta:=b }=true∧curAs { x with pi:=x.pi+1,hi:=0,beta:=b }=curAs x:=by
 obtain⟨h0,h1,h2,h3⟩:=hasHop_iff.1 h;have e1:(x.pi+1).toNat=x.pi.toNat+1:=by omega
 have hn:=G.ne _ he
 have hh:hasHop { x with pi:=x.pi+1,hi:=0,beta:=b }=true:=by
  rw [hasHop_iff];unfold curPart;simp only [e1];exact⟨by omega,he,by omega,by simpa using hn⟩
 refine⟨hh,?_⟩;rw [curAs_of hh,curAs_of h];have hf:=G.fol _ he;have hle:=(lastOf_iff h).1 hl;unfold curHop curPart;simp only [e1];unfold curPart at hle;rw [show x.hi.toNat=(partAt x.path.parts x.pi.toNat).hops.length - 1 by omega,hf];rfl
theorem chk_walk {t:Topo} {now:Int}:∀ (f:Nat) (x:Pkt),GoodP t x.path.parts→hasHop x=true→(chkAll t now f x).1=0→x.path.parts.length≤f+x.pi.toNat+1 →
  (chkAll t now f x).2.path=x.path∧(chkAll t now f x).2.dst=x.dst∧hasHop (chkAll t now f x).2=true∧curAs (chkAll t now f x).2=curAs x∧(∀ inn,walkAt (chkAll t now f x).2 inn=walkAt x inn) ∧
   (lastOf (chkAll t now f x).2=true→atLast (chkAll t now f x).2=true)
 | 0, x, G, hx, hc, hf => by
  obtain⟨e1,e2,e3,e4,_⟩:=verCur_pos t x;have hv:hasHop (verCur t x)=true:=by unfold hasHop curPart;rw [e1,e2,e3];exact hx
  refine⟨e3,e4,hv,?_,fun inn=>?_,fun hl=>?_⟩
  ·
   show curAs (verCur t x)=_
   unfold curAs curHop hasHop curPart;rw [e1,e2,e3]
  ·
   show walkAt (verCur t x) inn=_
   unfold walkAt restP restH curPart;rw [e1,e2,e3]
  exact(atLast_iff (by rw [e3];exact G) hv).2 ⟨hl,by rw [e3,e1];omega⟩
 | f + 1, x, G, hx, hc, hf => by
  obtain⟨e1,e2,e3,e4,_⟩:=verCur_pos t x;have hv:hasHop (verCur t x)=true:=by unfold hasHop curPart;rw [e1,e2,e3];exact hx
  have hca:curAs (verCur t x)=curAs x:=by unfold curAs curHop hasHop curPart;rw [e1,e2,e3]
  have hwa:∀ inn,walkAt (verCur t x) inn=walkAt x inn:=fun inn=>by unfold walkAt restP restH curPart;rw [e1,e2,e3]
  have Gv:GoodP t (verCur t x).path.parts:=by rw [e3];exact G
  unfold chkAll at hc ⊢
  split at hc
  ·
   rename_i hcond
   rw [if_pos hcond];simp only [Bool.and_eq_true,Bool.not_eq_true',beq_iff_eq] at hcond;obtain⟨⟨_,hl⟩,hna⟩:=hcond;obtain⟨ha,hlt⟩:=adv_part Gv hv hl (by rw [hna];decide);have hp:=part_pos (partAt (verCur t x).path.parts ((verCur t x).pi.toNat+1)).beta Gv hv hl hlt;rw [← ha] at hp;have hpath:(advance (verCur t x)).path=x.path:=by rw [ha];exact e3
   have hdst:(advance (verCur t x)).dst=x.dst:=by rw [ha];exact e4
   have hpi:(advance (verCur t x)).pi.toNat=x.pi.toNat+1:=by
    obtain⟨h0,_⟩:=hasHop_iff.1 hx;rw [ha];show((verCur t x).pi+1).toNat=_;rw [e1];omega
   obtain⟨a1,a2,a3,a4,a5,a6⟩:=chk_walk f (advance (verCur t x)) (by rw [hpath];exact G) hp.1 hc (by rw [hpath,hpi];omega);refine⟨a1.trans hpath,a2.trans hdst,a3,a4.trans (hp.2.trans hca),fun inn=>?_,a6⟩;rw [a5 inn,← hwa inn,walk_part inn _ hv hl hlt,← ha]
  rename_i hcond
  rw [if_neg hcond];refine⟨e3,e4,hv,hca,hwa,fun hl=>?_⟩
  cases hna:atLast (verCur t x)
  ·
   exfalso
   apply hcond
   simp only [Bool.and_eq_true,Bool.not_eq_true',beq_iff_eq];exact⟨⟨hc,hl⟩,hna⟩
  rfl
theorem chkCode_vals (t:Topo) (now:Int) (x:Pkt):chkCode t now x=0∨chkCode t now x=4∨chkCode t now x=5:=by
 unfold chkCode;split
 ·
  split
  ·
   exact .inl rfl
  exact .inr (.inr rfl)
 exact .inr (.inl rfl)
theorem chkAll_code (t:Topo) (now:Int):∀ (f:Nat) (x:Pkt),(chkAll t now f x).1=0∨(chkAll t now f x).1=4∨(chkAll t now f x).1=5
 | 0, x => chkCode_vals t now x
 | f + 1, x => by
  unfold chkAll
  split
  ·
   exact chkAll_code t now f _
  exact chkCode_vals t now x
theorem vp_hop {x:Pkt} (h:validPkt x=true):hasHop x=true:=by
 unfold validPkt at h;simp only [Bool.and_eq_true] at h;exact h.1.1.1.1.1.1.1.2
theorem good_of_simple {t:Topo} {p:Pth} (h:simple t p=true):GoodP t p.parts:=by
 unfold simple at h;simp only [Bool.and_eq_true] at h;exact good_of_wf h.1
theorem wantIn_hop {x:Pkt} (h:hasHop x=true):wantIn { x with hi:=x.hi+1 }=partIn (curPart x) (x.hi+1):=by
 obtain⟨_,_,h0,_⟩:=hasHop_iff.1 h;unfold wantIn;rw [if_neg (by simp only [Bool.and_eq_true,beq_iff_eq];omega)];rfl
theorem fw_ok {t:Topo} {r now dead inn cd eg:Int} {x z:Pkt} (h:forward t r now dead inn x=⟨cd,eg,z⟩) (hc:cd=0∨cd=1) :
  validPkt x=true∧simple t x.path=true∧curAs x=r∧inn=wantIn x∧(chkAll t now x.path.parts.length x).1=0 ∧
   (cd=1→walkAt x inn=[⟨r,inn,eg⟩]∧x.dst=r∧eg=0∧z=(chkAll t now x.path.parts.length x).2∧atLast (chkAll t now x.path.parts.length x).2=true) ∧
   (cd = 0 → walkAt x inn = ⟨r, inn, eg⟩ :: walkAt z (wantIn z) ∧ remEnd t r eg = (curAs z, wantIn z) ∧ hasHop z = true ∧ z.path = x.path ∧ z.dst = x.dst ∧ stepOk t ⟨r, inn, eg⟩ = true ∧ inSet dead eg = false ∧
    z = { (chkAll t now x.path.parts.length x).2 with hi := (chkAll t now x.path.parts.length x).2.hi + 1 } ∧ eg = partEg (curPart (chkAll t now x.path.parts.length x).2) (chkAll t now x.path.parts.length x).2.hi ∧ ¬ lastOf (chkAll t now x.path.parts.length x).2 = true) := by
 unfold forward at h;simp only at h
 split at h
 ·
  cases h;omega
 rename_i h1
 simp only [Bool.not_eq_true',Bool.not_eq_false,Bool.and_eq_true,beq_iff_eq] at h1;obtain⟨⟨hv,hs⟩,hr⟩:=h1
 split at h
 ·
  cases h;omega
 rename_i h2
 have hin:inn=wantIn x:=by simpa using h2
 have G:=good_of_simple hs;have hx:=vp_hop hv
 split at h
 ·
  rename_i h3
  have h3':¬ (chkAll t now x.path.parts.length x).1=0:=by simpa using h3
  have:(chkAll t now x.path.parts.length x).1=cd:=by cases h;rfl
  have hn:=chkAll_code t now x.path.parts.length x;omega
 rename_i h3
 have hch:(chkAll t now x.path.parts.length x).1=0:=by simpa using h3
 obtain⟨hy1,hy2,hy3,hy4,hy5,hy6⟩:=chk_walk x.path.parts.length x G hx hch (by omega);generalize hye:(chkAll t now x.path.parts.length x).2=y at *;have Gy:GoodP t y.path.parts:=by rw [hy1];exact G
 have hyr:(curHop y).asn=r:=by rw [← curAs_of hy3,hy4,hr]
 refine⟨hv,hs,hr,hin,hch,?_⟩
 split at h
 ·
  rename_i h4
  obtain⟨hl,hf⟩:=(atLast_iff Gy hy3).1 h4
  split at h
  ·
   rename_i h5
   cases h
   refine⟨fun _=>⟨?_,?_,rfl,rfl,h4⟩,fun e=>by omega⟩
   ·
    rw [← hy5,walk_end inn hy3 hl hf,hyr]
   rw [← hy2];simpa using h5
  cases h;omega
 rename_i h4
 have hl:¬ lastOf y=true:=fun e=>h4 (hy6 e)
 split at h
 ·
  cases h;omega
 rename_i h5
 split at h
 ·
  cases h;omega
 rename_i h6
 simp only [Vd.mk.injEq] at h;obtain⟨rfl,rfl,rfl⟩:=h;refine⟨fun e=>by omega,fun _=>?_⟩;obtain⟨hp0,hp1,hi0,hi1⟩:=hasHop_iff.1 hy3
 have hlt:y.hi.toNat+1<(curPart y).hops.length:=by
  have h9:¬ y.hi.toNat+1=(curPart y).hops.length:=fun e=>hl ((lastOf_iff hy3).2 e)
  omega
 have e1:(y.hi+1).toNat=y.hi.toNat+1:=by omega
 have hadv:=adv_hop Gy hy3 hl
 have hz:hasHop { y with hi:=y.hi+1 }=true:=by
  rw [hasHop_iff];refine⟨hp0,hp1,by show 0≤y.hi+1;omega,?_⟩
  show(y.hi+1).toNat<_
  rw [e1];exact hlt
 have heg:partEg (curPart y) y.hi=hopEg (curPart y).kind (curHop y):=by
  have:=partEg_at (p:=curPart y) hi1;rw [show((y.hi.toNat:Nat):Int)=y.hi by omega] at this;rw [this];unfold curHop;rw [Bz hi1]
 have hwi:wantIn { y with hi:=y.hi+1 }=hopIn (curPart y).kind (hopAt (curPart y).hops (y.hi.toNat+1)):=by
  rw [wantIn_hop hy3];have:=partIn_at (p:=curPart y) hlt;rw [show((y.hi.toNat+1:Nat):Int)=y.hi+1 by omega] at this;rw [this,Bz hlt]
 have hj:=Gy.join _ hp1 _ hlt;unfold joinAt at hj;simp only [Bool.and_eq_true,bne_iff_ne,beq_iff_eq] at hj;obtain⟨⟨_,hj1⟩,hj2⟩:=hj;have hce:hopAt (partAt y.path.parts y.pi.toNat).hops y.hi.toNat=curHop y:=rfl
 have hcz:curAs { y with hi:=y.hi+1 }=(hopAt (partAt y.path.parts y.pi.toNat).hops (y.hi.toNat+1)).asn:=by
  rw [curAs_of hz];unfold curHop curPart;simp only [e1]
 rw [show((y.hi.toNat:Nat):Int)=y.hi by omega,hce,hyr] at hj1 hj2;rw [hadv];refine⟨?_,?_,hz,hy1,hy2,?_,?_,rfl,rfl,hl⟩
 ·
  rw [← hy5,walk_hop inn hy3 hl,hyr,← heg,hwi]
 ·
  refine Prod.ext ?_ ?_
  ·
   rw [hcz];exact hj1
  rw [hwi];have h7:=partIn_at (p:=curPart y) hlt;rw [Bz hlt,← h7];exact hj2
 ·
  cases hs5:stepOk t ⟨r,inn,partEg (curPart y) y.hi⟩
  ·
   rw [hs5] at h5;exact absurd rfl h5
  rfl
 cases hs6:inSet dead (partEg (curPart y) y.hi)
 ·
  rfl
 rw [hs6] at h6;exact absurd rfl h6
def doorOk (now:Int) (ps:List Part) (s:Step):Prop:=
  ∃ j i,j<ps.length∧i<(partAt ps j).hops.length∧(hopAt (partAt ps j).hops i).asn=s.asn ∧
    ((hopAt (partAt ps j).hops i).ing=s.ing∨(hopAt (partAt ps j).hops i).eg=s.ing∨(hopAt (partAt ps j).hops i).ing=s.eg∨(hopAt (partAt ps j).hops i).eg=s.eg∨(s.ing=0∧s.eg=0)) ∧
    now≤(hopAt (partAt ps j).hops i).exp∧(partAt ps j).ts≤now
structure Trod (t : Topo) (now : Int) (dead : List Int) (x : Pkt) (inn : Int) (l : List Step) (w : Trc) where
  pre:List Step
  suf:List Step
  cut:walkAt x inn=pre ++ suf
  steps:w.steps=l ++ pre
  code:w.code≠0
  all:w.code=1→suf=[]
  short:w.code≠1→simple t x.path=true→hasHop x=true→suf≠[]
  door:∀ s∈pre,doorOk now x.path.parts s
  okS:∀ s∈pre,stepOk t s=true∨(s.eg=0∧((s.asn=curAs x∧s.ing=inn)∨∃ s',stepOk t s'=true∧remEnd t s'.asn s'.eg=(s.asn,s.ing)))
def verAt (t:Topo) (ps:List Part) (j i:Nat):Bool:=verHop t (partAt ps j).ts (betaFor (partAt ps j) i) (hopAt (partAt ps j).hops i)
def timeAt (now:Int) (ps:List Part) (j i:Nat):Bool:=decide ((partAt ps j).ts≤now) && decide (now≤(hopAt (partAt ps j).hops i).exp)
def validAt (ps:List Part) (j i:Nat):Prop:=j<ps.length∧i<(partAt ps j).hops.length
def after (x:Pkt) (j i:Nat):Prop:=x.pi.toNat<j∨(x.pi.toNat=j∧x.hi.toNat≤i)
def betaOk (x:Pkt):Prop:=x.beta=betaTo (curPart x) x.hi.toNat
theorem betaAfter_to {x:Part} {i:Nat} (h:i≤x.hops.length):betaAfter x i=betaTo x i:=by
 unfold betaAfter;rw [if_pos (by omega)];simp
theorem before_for {x:Pkt} (h:hasHop x=true) (hb:betaOk x):curBefore x=betaFor (curPart x) x.hi.toNat:=by
 obtain⟨_,_,_,h3⟩:=hasHop_iff.1 h;unfold curBefore betaFor;rw [hb]
 split
 ·
  rename_i hr
  rw [betaAfter_to (by omega),betaTo_succ h3,if_pos hr];unfold curHop;rw [Bz h3]
 rw [betaAfter_to (by omega)]
theorem after_to {x:Pkt} (h:hasHop x=true) (hb:betaOk x):curAfter x=betaTo (curPart x) (x.hi.toNat+1):=by
 obtain⟨_,_,_,h3⟩:=hasHop_iff.1 h;unfold curAfter;rw [betaTo_succ h3,← hb];unfold curHop;rw [Bz h3]
theorem curOk_at {t:Topo} {x:Pkt} (h:hasHop x=true) (hb:betaOk x):curOk t x=verAt t x.path.parts x.pi.toNat x.hi.toNat:=by
 unfold curOk verAt;rw [h,before_for h hb];rfl
theorem curIn_time {t:Topo} {x:Pkt} {now:Int} (G:GoodP t x.path.parts) (h:hasHop x=true):curIn x now=timeAt now x.path.parts x.pi.toNat x.hi.toNat:=by
 unfold curIn timeAt;rw [curAs_of h];have:=asn_nn G h;rw [decide_eq_true this,Bool.true_and];rfl
theorem verCur_yes {t:Topo} {x:Pkt} (h:curOk t x=true):verCur t x={ x with beta:=curAfter x }:=by unfold verCur;rw [if_pos h]
theorem chk_res {t:Topo} {now:Int}:∀ (f:Nat) (x:Pkt),GoodP t x.path.parts→hasHop x=true→betaOk x→x.path.parts.length≤f+x.pi.toNat+1 →
  ((chkAll t now f x).1 = 0 ∧ (chkAll t now f x).2.beta = betaTo (curPart (chkAll t now f x).2) ((chkAll t now f x).2.hi.toNat + 1) ∧
    (∀ j i, validAt x.path.parts j i → after x j i → (after { (chkAll t now f x).2 with hi := (chkAll t now f x).2.hi + 1 } j i ∨ (verAt t x.path.parts j i = true ∧ timeAt now x.path.parts j i = true)))) ∨
   ((chkAll t now f x).1=4∧∃ j i,validAt x.path.parts j i∧verAt t x.path.parts j i=false)∨((chkAll t now f x).1=5∧∃ j i,validAt x.path.parts j i∧timeAt now x.path.parts j i=false)
 | f, x, G, hx, hb, hf => by
  obtain⟨h0,h1,h2,h3⟩:=hasHop_iff.1 hx;have hco:=curOk_at (t:=t) hx hb;have hci:=curIn_time (now:=now) G hx
  have hva:validAt x.path.parts x.pi.toNat x.hi.toNat:=⟨h1,h3⟩
  cases ho:curOk t x
  ·
   right;left
   have hc:chkCode t now x=4:=by unfold chkCode;rw [ho];rfl
   have:(chkAll t now f x).1=4:=by
    cases f with
    | zero => exact hc
    | succ f => unfold chkAll; rw [hc]; simp
   exact⟨this,_,_,hva,by rw [← hco,ho]⟩
  cases hi:curIn x now
  ·
   right;right
   have hc:chkCode t now x=5:=by unfold chkCode;rw [ho,hi];rfl
   have:(chkAll t now f x).1=5:=by
    cases f with
    | zero => exact hc
    | succ f => unfold chkAll; rw [hc]; simp
   exact⟨this,_,_,hva,by rw [← hci,hi]⟩
  have hc:chkCode t now x=0:=by unfold chkCode;rw [ho,hi];rfl
  have hvy:=verCur_yes ho
  have hgood:verAt t x.path.parts x.pi.toNat x.hi.toNat=true∧timeAt now x.path.parts x.pi.toNat x.hi.toNat=true:=⟨by rw [← hco,ho],by rw [← hci,hi]⟩
  have stay : (chkAll t now f x).1 = 0 → (chkAll t now f x).2 = verCur t x → ((chkAll t now f x).1 = 0 ∧ (chkAll t now f x).2.beta = betaTo (curPart (chkAll t now f x).2) ((chkAll t now f x).2.hi.toNat + 1) ∧
    (∀ j i, validAt x.path.parts j i → after x j i → (after { (chkAll t now f x).2 with hi := (chkAll t now f x).2.hi + 1 } j i ∨ (verAt t x.path.parts j i = true ∧ timeAt now x.path.parts j i = true)))) := fun e1 e2 => by
   refine⟨e1,?_,fun j i hv ha=>?_⟩
   ·
    rw [e2,hvy];exact after_to hx hb
   rw [e2,hvy]
   rcases ha with ha | ⟨ha,hb2⟩
   ·
    exact .inl (.inl ha)
   rcases Nat.lt_or_ge x.hi.toNat i with h9 | h9
   ·
    exact .inl (.inr ⟨ha,by show(x.hi+1).toNat≤i;omega⟩)
   obtain rfl:i=x.hi.toNat:=by omega
   subst ha;exact .inr hgood
  cases f with
  | zero => exact .inl (stay hc rfl)
  | succ f =>
   by_cases hcond:(chkCode t now x == 0 && lastOf (verCur t x) && !(atLast (verCur t x)))=true
   ·
    have e:chkAll t now (f+1) x=chkAll t now f (advance (verCur t x)):=by rw [chkAll,if_pos hcond]
    simp only [Bool.and_eq_true,Bool.not_eq_true',beq_iff_eq] at hcond;obtain⟨⟨_,hl⟩,hna⟩:=hcond;obtain⟨p1,p2,p3,p4,_⟩:=verCur_pos t x;have hv:hasHop (verCur t x)=true:=by unfold hasHop curPart;rw [p1,p2,p3];exact hx
    have Gv:GoodP t (verCur t x).path.parts:=by rw [p3];exact G
    obtain⟨ha,hlt⟩:=adv_part Gv hv hl (by rw [hna];decide);have hp:=part_pos (partAt (verCur t x).path.parts ((verCur t x).pi.toNat+1)).beta Gv hv hl hlt;rw [← ha] at hp;have hpath:(advance (verCur t x)).path=x.path:=by rw [ha];exact p3
    have hpi:(advance (verCur t x)).pi.toNat=x.pi.toNat+1:=by rw [ha];show((verCur t x).pi+1).toNat=_;rw [p1];omega
    have hhi:(advance (verCur t x)).hi=0:=by rw [ha]
    have hbn:betaOk (advance (verCur t x)):=by
     unfold betaOk curPart;rw [hpath,hpi,hhi,ha]
     show(partAt (verCur t x).path.parts ((verCur t x).pi.toNat+1)).beta=_
     rw [p3,p1];rfl
    have hle:=(lastOf_iff hv).1 hl;rw [p2] at hle;have hcp:curPart (verCur t x)=partAt x.path.parts x.pi.toNat:=by unfold curPart;rw [p1,p3]
    rw [hcp] at hle;have ih:=chk_res (t:=t) (now:=now) f (advance (verCur t x)) (by rw [hpath];exact G) hp.1 hbn (by rw [hpath,hpi];omega);rw [e];rw [hpath] at ih
    rcases ih with ⟨i1,i2,i3⟩ | ih | ih
    ·
     refine .inl ⟨i1,i2,fun j i hv2 ha2=>?_⟩
     rcases ha2 with ha2 | ⟨ha2,hb2⟩
     ·
      refine i3 j i hv2 ?_;unfold after;rw [hpi,hhi]
      rcases Nat.lt_or_ge (x.pi.toNat+1) j with h9 | h9
      ·
       exact .inl h9
      exact .inr ⟨by omega,Nat.zero_le _⟩
     subst ha2;have h9:=hv2.2;obtain rfl:i=x.hi.toNat:=by omega
     exact .inr hgood
    ·
     exact .inr (.inl ih)
    exact .inr (.inr ih)
   have e:chkAll t now (f+1) x=(chkCode t now x,verCur t x):=by rw [chkAll,if_neg hcond]
   exact .inl (stay (by rw [e];exact hc) (by rw [e]))
theorem beta_next {y:Pkt} {n:Int} (hn:0≤y.hi) (hb:y.beta=betaTo (curPart y) (y.hi.toNat+1)) (h:n=y.hi+1):betaOk { y with hi:=n }:=by
 unfold betaOk
 show y.beta=betaTo (curPart y) n.toNat
 rw [hb,h,show(y.hi+1).toNat=y.hi.toNat+1 by omega]
def mkPart (s:Seg) (kind:Int) (k:Nat):Part:=if isRev kind then ⟨kind,s.ts,betaAt s s.hops.length,(s.hops.drop k).reverse⟩ else ⟨kind,s.ts,betaAt s k,s.hops.drop k⟩
def makePart (s:Seg) (kind k:Int):Part:=if inR k 0 ((s.hops.length:Int) - 1) && inR kind 1 4 then mkPart s kind k.toNat else ⟨0,0,0,[]⟩
theorem mkPart_len (s:Seg) (kind:Int) (k:Nat):(mkPart s kind k).hops.length=s.hops.length - k:=by unfold mkPart;split <;> simp
structure PartDrawn (t : Topo) (x : Part) : Prop where
  how:∃ (kd:Int) (s:Seg) (kind:Int) (k:Nat),SegDrawn t kd s∧(1≤kind∧kind≤4)∧k<s.hops.length∧x=mkPart s kind k
structure PthDrawn (t : Topo) (p : Pth) : Prop where
  len:p.parts.length≤3
  part:∀ x∈p.parts,PartDrawn t x
theorem makePart_drawn {t:Topo} {kd:Int} {s:Seg} (h:SegDrawn t kd s) {kind:Int} (hk:1≤kind∧kind≤4) {k:Nat} (hl:k<s.hops.length):PartDrawn t (makePart s kind k):=
 ⟨⟨kd,s,kind,k,h,hk,hl,by unfold makePart;rw [if_pos (by simp only [Bool.and_eq_true,inR_true];omega),Int.toNat_natCast]⟩⟩
theorem PartDrawn.len {t:Topo} {x:Part} (h:PartDrawn t x):1≤x.hops.length∧x.hops.length≤5:=by
 obtain⟨kd,s,kind,k,h1,h2,h3,rfl⟩:=h.how;have:=h1.len;rw [mkPart_len];omega
theorem hopsN_all {m:Nat}:∀ {l:List Part},(∀ x∈l,x.hops.length≤m)→hopsN l≤m * l.length
 | [], _ => by simp [hopsN]
 | x :: l, h => by
  have h1:=hopsN_all (l:=l) (fun y hy=>h y (by simp [hy]));have h2:=h x (by simp);have h3:hopsN (x :: l)=x.hops.length+hopsN l:=by simp [hopsN,Part.size]
  rw [h3,List.length_cons,Nat.mul_succ];omega
theorem PthDrawn.size {t:Topo} {p:Pth} (h:PthDrawn t p):p.size≤18:=by
 have h1:=hopsN_all (l:=p.parts) (m:=5) (fun x hx=>(h.part x hx).len.2);have:=h.len;unfold Pth.size;omega
theorem PthDrawn.nil (t:Topo):PthDrawn t ⟨[]⟩:=⟨by simp,fun x hx=>by cases hx⟩
theorem PthDrawn.snoc {t:Topo} {l:List Part} (h:PthDrawn t ⟨l⟩) (hl:l.length≤2) {x:Part} (hx:PartDrawn t x):PthDrawn t ⟨l ++ [x]⟩:=
 ⟨by simp; omega, fun y hy => by
  rcases List.mem_append.1 hy with h1 | h1
  ·
   exact h.part y h1
  obtain rfl := List.mem_singleton.1 h1; exact hx⟩
theorem SegDrawn.valid {t:Topo} (T:TopoOk t) {kd:Int} {s:Seg} (h:SegDrawn t kd s) {i:Nat} (hi:i<s.hops.length):validHop s.hops[i]=true:=by
 have:=h.ver T i hi;unfold verHop at this;simp only [Bool.and_eq_true] at this;exact this.1.1
theorem valid_mac {h:Hop} (hv:validHop h=true):isRes h.mac=true:=by unfold validHop at hv;simp only [Bool.and_eq_true] at hv;exact hv.2
theorem SegDrawn.resB {t:Topo} {kd:Int} {s:Seg} (h:SegDrawn t kd s) (i:Nat) (hi:i≤s.hops.length):isRes (betaAt s i)=true:=by
 rw [betaAt_nat hi];exact chainAdd_res _ _ (isRes_of h.beta.1 h.beta.2)
theorem betaAt_succ {s:Seg} {i:Nat} (hi:i<s.hops.length):betaAt s (i+1:Nat)=addMod (betaAt s i) s.hops[i].mac:=by
 have h:=chainAdd_snoc (b:=s.beta) (l:=s.hops.map (·.mac)) (k:=i) (by simpa using hi);rw [betaAt_nat (by omega),betaAt_nat (by omega),List.map_take,List.map_take,h]
 simp
theorem part_beta {t:Topo} (T:TopoOk t) {kd:Int} {s:Seg} (h:SegDrawn t kd s) {kind:Int} {k:Nat} (hk:k≤s.hops.length):∀ (i:Nat),i≤s.hops.length - k →
  betaTo (mkPart s kind k) i=if isRev kind then betaAt s (s.hops.length - i:Nat) else betaAt s (k+i:Nat)
 | 0, _ => by
  cases hr:isRev kind
  ·
   unfold mkPart;rw [hr];simp [betaTo]
  unfold mkPart;rw [hr];simp [betaTo]
 | i + 1, hi => by
  have ih:=part_beta T h (kind:=kind) hk i (by omega);rw [betaTo_succ (by rw [mkPart_len];omega),ih]
  cases hr:isRev kind
  ·
   have e1:(mkPart s kind k).kind=kind:=by unfold mkPart;rw [hr];rfl
   rw [e1,hr];simp only [Bool.false_eq_true,if_false]
   have e2:((mkPart s kind k).hops[i]'(by rw [mkPart_len];omega))=s.hops[k+i]'(by omega):=by
    simp only [mkPart,hr,Bool.false_eq_true,if_false,List.getElem_drop]
   rw [e2,← Nat.add_assoc,betaAt_succ (by omega)]
  have e1:(mkPart s kind k).kind=kind:=by unfold mkPart;rw [hr];rfl
  rw [e1,hr];simp only [if_true]
  have e2:((mkPart s kind k).hops[i]'(by rw [mkPart_len];omega))=s.hops[s.hops.length - 1 - i]'(by omega):=by
   simp only [mkPart,hr,if_true,List.getElem_reverse,List.getElem_drop,List.length_drop]
   congr 1;omega
  have e3:s.hops.length - i=(s.hops.length - (i+1))+1:=by omega
  have e4:s.hops.length - 1 - i=s.hops.length - (i+1):=by omega
  rw [e2,e3,betaAt_succ (by omega)];have e5:s.hops[s.hops.length - 1 - i]'(by omega)=s.hops[s.hops.length - (i+1)]'(by omega):=by congr 1
  rw [e5];exact sub_add (h.resB _ (by omega)) (valid_mac (h.valid T (by omega)))
theorem mkPart_kind (s:Seg) (kind:Int) (k:Nat):(mkPart s kind k).kind=kind∧(mkPart s kind k).ts=s.ts:=by unfold mkPart;split <;> exact⟨rfl,rfl⟩
def partHop (s:Seg) (kind:Int) (k i:Nat):Nat:=if isRev kind then s.hops.length - 1 - i else k+i
theorem partHop_lt {s:Seg} {kind:Int} {k i:Nat} (hi:i<s.hops.length - k):partHop s kind k i<s.hops.length:=by unfold partHop;split <;> omega
theorem part_hop {s:Seg} {kind:Int} {k i:Nat} (hi:i<s.hops.length - k):hopAt (mkPart s kind k).hops i=s.hops[partHop s kind k i]'(partHop_lt hi):=by
 rw [Bz (by rw [mkPart_len];exact hi)]
 cases hr:isRev kind
 ·
  have:partHop s kind k i=k+i:=by unfold partHop;rw [hr];rfl
  simp only [mkPart,hr,Bool.false_eq_true,if_false,List.getElem_drop,this]
 have:partHop s kind k i=s.hops.length - 1 - i:=by unfold partHop;rw [hr];rfl
 simp only [mkPart,hr,if_true,List.getElem_reverse,List.getElem_drop,List.length_drop,this]
 congr 1;omega
theorem part_for {t:Topo} (T:TopoOk t) {kd:Int} {s:Seg} (h:SegDrawn t kd s) {kind:Int} {k i:Nat} (hi:i<s.hops.length - k):betaFor (mkPart s kind k) i=betaAt s (partHop s kind k i):=by
 unfold betaFor;rw [(mkPart_kind s kind k).1,betaAfter_to (by rw [mkPart_len];omega),betaAfter_to (by rw [mkPart_len];omega),part_beta T h (by omega) _ (by omega),part_beta T h (by omega) _ (by omega)];unfold partHop
 split
 ·
  congr 1;omega
 rfl
theorem mkPart_ver {t:Topo} (T:TopoOk t) {kd:Int} {s:Seg} (h:SegDrawn t kd s) {kind:Int} {k:Nat}:verPart t (mkPart s kind k)=true:=by
 unfold verPart;rw [allTo_true];intro i hi;rw [mkPart_len] at hi;rw [part_for T h hi,part_hop hi,(mkPart_kind s kind k).2];exact h.ver T _ (partHop_lt hi)
theorem PartDrawn.ver {t:Topo} (T:TopoOk t) {x:Part} (h:PartDrawn t x):verPart t x=true:=by
 obtain⟨kd,s,kind,k,h1,_,_,rfl⟩:=h.how;exact mkPart_ver T h1
theorem PthDrawn.ver {t:Topo} (T:TopoOk t) {p:Pth} (h:PthDrawn t p):verPath t p=true:=by
 unfold verPath;rw [allTo_true];intro i hi;rw [Cf hi];exact(h.part _ (List.getElem_mem _)).ver T
theorem Grown.exp {t:Topo} {kind ts beta:Int} {r inn:Int} {hs:List Hop} (h:Grown t kind ts beta r inn hs):∀ x∈hs,ts+50≤x.exp∧x.exp≤ts+99:=by
 induction h with
 | start => intro x hx; cases hx
 | step r inn out e hs _ _ _ _ h1 h2 ih =>
  intro x hx
  rcases List.mem_append.1 hx with h | h
  ·
   exact ih x h
  obtain rfl:=List.mem_singleton.1 h;exact⟨h1,h2⟩
theorem SegDrawn.exps {t:Topo} {kd:Int} {s:Seg} (h:SegDrawn t kd s):∀ x∈s.hops,50≤x.exp∧x.exp≤148:=by
 have h0:=h.ts
 rcases h.how with ⟨r,inn,g⟩ | h1 | ⟨r,inn,e,hs,g,_,he1,he2,h1⟩
 ·
  intro x hx;have:=g.exp x hx;omega
 ·
  rw [h1];intro x hx;cases hx
 rw [h1];intro x hx
 rcases List.mem_append.1 hx with h | h
 ·
  have:=g.exp x h;omega
 obtain rfl:=List.mem_singleton.1 h
 show 50≤e∧e≤148
 omega
structure PartGood (x : Part) : Prop where
  kind:1≤x.kind∧x.kind≤4
  ts:0≤x.ts∧x.ts≤49
  beta:isRes x.beta=true
  len:1≤x.hops.length∧x.hops.length≤5
  hops:∀ h∈x.hops,validHop h=true∧50≤h.exp∧h.exp≤148
theorem PartDrawn.good {t:Topo} (T:TopoOk t) {x:Part} (h:PartDrawn t x):PartGood x:=by
 have hl:=h.len;obtain⟨kd,s,kind,k,h1,h2,h3,rfl⟩:=h.how;obtain⟨e1,e2⟩:=mkPart_kind s kind k;refine⟨by rw [e1];exact h2,by rw [e2];exact h1.ts,?_,hl,fun y hy=>?_⟩
 ·
  unfold mkPart;split
  ·
   exact h1.resB _ (Ae _)
  exact h1.resB _ (by omega)
 obtain⟨i,hi,rfl⟩:=List.getElem_of_mem hy;have hi':=hi;rw [mkPart_len] at hi';have:=part_hop (s:=s) (kind:=kind) (k:=k) hi';rw [Bz hi] at this;rw [this];exact⟨h1.valid T _,h1.exps _ (List.getElem_mem _)⟩
end
abbrev Cb := @hasHop_iff
end Go.Proofs.YteodlcpeoaggbaaGreat
