/- What these laws need: FnOld: Segments as they are drawn: grown hop by hop along the links of a right topology, each hop sealed: all of them verify. When a packet that began right is delivered: exactly if every hop on its way verifies and is in time, where every AS permits. Parts as they are drawn: of segments whose hops are sealed; they verify, in both directions. A packet set out on a path that every AS permits: it comes to the end, or a hop does not verify or is not in time. Behind a path's expiry no packet comes to its end; where one does, the path was usable. Contracts of a path's hops and expiry, program. -/
import Derived.Deep.LoopGhost
import Derived.Test.YteodlcpeoaggbaaGreatKV13
import Derived.Test.YteodlcpeoaggbaaGreatKV28
namespace Go.Proofs.YteodlcpeoaggbaaGreat
section
open Go.RowKit
def badFrom (t:Topo) (s:Seg):Nat→Nat→Int
  | 0, _ => -1
  | n + 1, k => if verHop t s.ts (betaAt s k) (hopAt s.hops k) then badFrom t s n (k + 1) else k
def firstBad (t:Topo) (s:Seg):Int:=badFrom t s s.hops.length 0
theorem hopAt_get {l:List Hop} {k:Nat} (hk:k<l.length):hopAt l k=l[k]:=by unfold hopAt;rw [List.getElem?_eq_getElem hk]
theorem trav_good (t:Topo) (now:Int) (dead:List Int):∀ (f:Nat) (r inn:Int) (x:Pkt) (l:List Step),betaOk x→(trav t now dead f r inn x l).code=1 →
  simple t x.path=true∧∀ j i,validAt x.path.parts j i→after x j i→verAt t x.path.parts j i=true∧timeAt now x.path.parts j i=true
 | 0, _, _, _, _, _, h => by unfold trav at h; cases h
 | f + 1, r, inn, x, l, hb, h => by
  obtain⟨v,hv⟩:∃ v,forward t r now (failedIfs t dead r) inn x=v:=⟨_,rfl⟩
  obtain⟨cd,eg,z⟩:=v
  by_cases h0:cd=0
  ·
   subst h0;obtain⟨hvp,hs,_,_,hch,_,hg⟩:=fw_ok hv (.inl rfl);obtain⟨_,_,e3,e4,_,_,_,ez,_⟩:=hg rfl;have hx:=vp_hop hvp;rw [trav_go hv] at h;obtain⟨hy1,_,hy3,_⟩:=chk_walk x.path.parts.length x (good_of_simple hs) hx hch (by omega);have hr:=chk_res (t:=t) (now:=now) x.path.parts.length x (good_of_simple hs) hx hb (by omega);rw [hch] at hr
   rcases hr with ⟨_,r2,r3⟩ | ⟨r1,_⟩ | ⟨r1,_⟩
   ·
    have hbz:betaOk z:=by rw [ez];exact beta_next (Cb.1 hy3).2.2.1 r2 rfl
    have ih:=trav_good t now dead f _ _ z _ hbz h;rw [e4] at ih;refine⟨hs,fun j i hva ha=>?_⟩
    rcases r3 j i hva ha with h9 | h9
    ·
     exact ih.2 j i hva (by rw [ez];exact h9)
    exact h9
   ·
    cases r1
   cases r1
  by_cases h1:cd=1
  ·
   subst h1;obtain⟨hvp,hs,_,_,hch,hg,_⟩:=fw_ok hv (.inr rfl);obtain⟨_,_,_,_,hat⟩:=hg rfl;have hx:=vp_hop hvp;obtain⟨hy1,_,hy3,_⟩:=chk_walk x.path.parts.length x (good_of_simple hs) hx hch (by omega);have hr:=chk_res (t:=t) (now:=now) x.path.parts.length x (good_of_simple hs) hx hb (by omega);rw [hch] at hr
   rcases hr with ⟨_,r2,r3⟩ | ⟨r1,_⟩ | ⟨r1,_⟩
   ·
    refine⟨hs,fun j i hva ha=>?_⟩
    rcases r3 j i hva ha with h9 | h9
    ·
     exfalso
     have Gy:GoodP t (chkAll t now x.path.parts.length x).2.path.parts:=by rw [hy1];exact good_of_simple hs
     obtain⟨hl,hf⟩:=(atLast_iff Gy hy3).1 hat;have hle:=(lastOf_iff hy3).1 hl;have hy0:=(Cb.1 hy3).2.2.1;unfold curPart at hle;rw [hy1] at hf hle;generalize (chkAll t now x.path.parts.length x).2=y at *;have hj:=hva.1
     rcases h9 with h9 | ⟨h9,h10⟩
     ·
      have h9':y.pi.toNat<j:=h9;omega
     have h9':y.pi.toNat=j:=h9;have h10':(y.hi+1).toNat≤i:=h10;have hi:=hva.2;rw [← h9'] at hi;omega
    exact h9
   ·
    cases r1
   cases r1
  rw [trav_bad hv h0 h1] at h;exact absurd h h1
theorem makePart_len (s:Seg) (kind k:Int):(makePart s kind k).hops.length≤s.hops.length:=by
 unfold makePart;split
 ·
  rw [mkPart_len];omega
 simp
theorem usable_mk {t:Topo} {p:Pth} {now:Int} (h1:simple t p=true) (h2:verPath t p=true) (h3:∀ j i,validAt p.parts j i→timeAt now p.parts j i=true):usable t p now=true:=by
 have G:=good_of_simple h1;unfold usable;rw [h1,h2];simp only [Bool.and_true,Bool.true_and];rw [allTo_true];intro j hj;unfold partIn' hopsIn;simp only [Bool.and_eq_true,List.all_eq_true];have h0:=h3 j 0 ⟨hj,G.ne j hj⟩;unfold timeAt at h0;simp only [Bool.and_eq_true] at h0;refine⟨h0.1,fun y hy=>?_⟩;obtain⟨i,hi,rfl⟩:=List.getElem_of_mem hy;have h4:=h3 j i ⟨hj,hi⟩;unfold timeAt at h4;simp only [Bool.and_eq_true] at h4;rw [Bz hi] at h4;exact h4.2
def allHops (p:Pth):List Hop:=p.parts.flatMap (·.hops)
def pathExp (p:Pth):Int:=leastExp (allHops p)
theorem leastF_mem:∀ (l:List Hop) (h:Hop),∃ x∈h :: l,l.foldl (fun m x=>if x.exp<m then x.exp else m) h.exp=x.exp
 | [], h => ⟨h, by simp, rfl⟩
 | y :: l, h => by
  rw [List.foldl_cons]
  by_cases hy:y.exp<h.exp
  ·
   rw [if_pos hy];obtain⟨x,hx,e⟩:=leastF_mem l y;exact⟨x,List.mem_cons_of_mem _ hx,e⟩
  rw [if_neg hy];obtain⟨x,hx,e⟩:=leastF_mem l h;refine⟨x,?_,e⟩
  rcases List.mem_cons.1 hx with rfl | hx
  ·
   simp
  exact List.mem_cons_of_mem _ (List.mem_cons_of_mem _ hx)
theorem least_mem {l:List Hop} (h:0<l.length):∃ x∈l,leastExp l=x.exp:=by
 cases l with
 | nil => simp at h
 | cons a l => exact leastF_mem l a
theorem reach_usable {t:Topo} {p:Pth} {now:Int} {dead:List Int} {kind rid seq:Int} {pay:List Int} (hc:(traverse t now dead (newPkt kind p rid seq pay)).code=1):usable t p now=true:=by
 have hb:betaOk (newPkt kind p rid seq pay):=by
  show beta0 p.parts=betaTo (partAt p.parts 0) 0
  unfold beta0;obtain⟨ps⟩:=p
  cases ps <;> rfl
 obtain⟨hs,hg⟩:=trav_good t now dead 30 _ 0 _ [] hb hc;have hs':simple t p=true:=hs;have hall:∀ j i,validAt p.parts j i→verAt t p.parts j i=true∧timeAt now p.parts j i=true:=fun j i hv=>hg j i hv (by unfold after newPkt;simp only [Int.toNat_zero];omega)
 refine usable_mk hs' ?_ (fun j i hv=>(hall j i hv).2);unfold verPath;rw [allTo_true];intro j hj;unfold verPart;rw [allTo_true];intro i hi;exact(hall j i ⟨hj,hi⟩).1
theorem usable_in {t:Topo} {p:Pth} {now:Int} (hu:usable t p now=true):(∀ x∈allHops p,now≤x.exp)∧0<(allHops p).length:=by
 obtain⟨h1,_,h3⟩:=usable_of hu;have G:=good_of_simple h1;have hw:wfPath t p=true:=by unfold simple at h1;simp only [Bool.and_eq_true] at h1;exact h1.1
 have hlen:0<p.parts.length:=by unfold wfPath at hw;simp only [Bool.and_eq_true] at hw;have:=(Bk.1 hw.1).1;omega
 refine⟨fun x hx=>?_,?_⟩
 ·
  obtain⟨q,hq,hxq⟩:=List.mem_flatMap.1 hx;obtain⟨j,hj,rfl⟩:=List.getElem_of_mem hq;obtain⟨i,hi,rfl⟩:=List.getElem_of_mem hxq;have:=h3 j i ⟨hj,by rw [Cf hj];exact hi⟩;unfold timeAt at this;simp only [Bool.and_eq_true,decide_eq_true_eq] at this;rw [Cf hj,Bz hi] at this;exact this.2
 have h0:=G.ne 0 hlen;rw [Cf hlen] at h0;refine List.length_pos_of_mem (a:=p.parts[0].hops[0]) (List.mem_flatMap.2 ⟨p.parts[0],List.getElem_mem _,List.getElem_mem _⟩)
theorem reach_exp {t:Topo} {p:Pth} {now:Int} (hu:usable t p now=true):now≤pathExp p:=by
 obtain⟨h1,h2⟩:=usable_in hu;obtain⟨x,hx,e⟩:=least_mem h2;unfold pathExp;rw [e];exact h1 x hx
end
section
open Go.ChangeShapes Go.WideShapes Go.ChangeAt Go.RowKit Go.Deep
set_option maxHeartbeats 4000000
theorem all_take (ps:List Part) (k:Nat):((ps.take k).flatMap (·.hops)).length=hopsN (ps.take k):=by
 unfold hopsN;rw [List.length_flatMap];rfl
theorem all_snoc {ps:List Part} {k:Nat} (hk:k<ps.length):(ps.take (k+1)).flatMap (·.hops)=(ps.take k).flatMap (·.hops) ++ ps[k].hops:=by
 rw [List.take_succ_eq_append_getElem hk,List.flatMap_append]
 simp
set_option maxRecDepth 100000 in
theorem i_allHops (p:Pth) (v:Value) (w:World) (r:RdS Part.rep w v p.parts) (hl:p.size≤1048576) :
  Calls Tryz.prog 75 #[.agg #[v]] w fun e w'=>∃ v',e=.returned v'∧OwnF Hop.f 5 w.heap.size 103 w' v' (allHops p)∧Ext w w':=by
 obtain⟨EH⟩:=elemHop;obtain⟨o,c,rfl,_⟩:=r.shape;have hN:hopsN p.parts≤1048576:=by unfold Pth.size at hl;omega
 obtain⟨hx0,HB0⟩:=ea1 w (.cells #[.slice o p.parts.length c] 30);replace HB0:=Ac HB0
 go_enter Tryz.func75,Tryz.ntmps75
 have cf1:=blk1 HB0.out
 go_wp2_with fail
 go_loopg [3,9] p.parts.length (fun gk out i wr=>∃ (k:Nat) (l:List Hop),gk+k=p.parts.length∧i=.int .i64 k∧Hid (l=(p.parts.take k).flatMap (·.hops))∧OwnF Hop.f 5 w.heap.size 103 wr out l∧Ext w wr)
 case atStart=>exact⟨0,[],by omega,rfl,Ac (by simp),OwnF.nil _ _ _ _ _,hx0⟩
 case round=>
  obtain⟨k,l,hgk,rfl,HL,ho,hx⟩:=hrel;have HGK:=Ac hgk;clear hgk cf1;have hkm:k≤p.parts.length:=by have h2:=HGK.out;omega
  by_cases hlt:k<p.parts.length
  ·
   have hlt2:(k:Int)<(p.parts.length:Int):=by omega
   obtain⟨b,off,oh,ch,rfl,hc,hr⟩:=Bx (r.ext hx) k hlt
   have hll:l.length+p.parts[k].hops.length≤1048576:=by
    have h1:=HL.out;have h2:=all_take p.parts k;have h3:=hopsN_take_le p.parts (k+1);have h4:=hopsN_snoc hlt;rw [← h1] at h2;omega
   have HLN:=Ac ((congrArg (· ++ p.parts[k].hops) HL.out).trans (all_snoc hlt).symm);generalize p.parts[k]=x at hc hr hll HLN
   go_wp2_with (at_builtin;refine appS EH Ao Hop.one rfl _ _ rfl x.hops rfl (Ay ho ((Ab _).alloc _)) rfl (hr.ext ((Ab _).alloc _)) (by omega) (by unfold maxLen;omega) (by have h1:=hx.size;simp;omega) ?_)
   intro v' w' ho' hg';have hx':Ext w w':=(hx.alloc (.cells #[.int .i64 x.kind,.int .i64 x.ts,.int .i64 x.beta,.slice oh x.hops.length ch] 99)).app hg' ho (Ae _);clear hg' ho
   go_wp2_with fail
   go_roundg (gk - 1)
   case measure=>have h2:=HGK.out;omega
   case rel=>exact⟨k+1,_,by have h2:=HGK.out;omega,congrArg (Value.int .i64) (by first | omega | (unfold wrap64;omega)),HLN,ho',hx'⟩
  have hge:¬ (k:Int)<(p.parts.length:Int):=by omega
  have he:l=allHops p:=by rw [HL.out,List.take_of_length_le (by omega)];rfl
  subst he
  go_wp2_with fail
  go_ret
  exact⟨_,rfl,ho,hx⟩
theorem i_PathExpiry (p:Pth) (v:Value) (w:World) (r:RdS Part.rep w v p.parts) (hl:p.size≤1048576) :
  Calls Tryz.prog 28 #[.agg #[v]] w fun e w'=>e=.returned (.int .i64 (pathExp p))∧Ext w w':=by
 obtain⟨o,c,rfl,_⟩:=r.shape;obtain⟨hx0,HB0⟩:=ea1 w (.cells #[.slice o p.parts.length c] 30);replace HB0:=Ac HB0
 go_enter Tryz.func28,Tryz.ntmps28
 have cf1:=blk1 HB0.out
 go_wp2_with fail
 refine(i_allHops p _ _ (r.ext hx0) hl).mono ?_;rintro e w1 ⟨v,rfl,O,hz1⟩;have rO:=Bb (hf:=Ao) O;clear O
 try clear cf1
 have cf2:=blk1 (Aa hz1 HB0.out)
 go_wp2_with fail
 refine(i_leastExpiry (allHops p) _ _ rO).mono ?_;rintro e w2 ⟨rfl,hz2⟩
 try clear cf2
 have cf3:=blk1 (Aa (hz1.t hz2) HB0.out)
 go_wp2_with fail
 go_ret
 exact⟨rfl,((hx0.t hz1).t hz2)⟩
end
end Go.Proofs.YteodlcpeoaggbaaGreat
