/- What these laws need: FnOld, FnWalks: The data of the struct Hop (Hop), how a slice of it reads, and the contracts of the laws' helper functions over it. The data of path parts and paths, how they read, and the contracts of the laws' helper functions over them. The data of the struct Step (Step), how a slice of it reads, and the contracts of the laws' helper functions over it. The plain functions of paths: steps, ends, interfaces. Contracts of the functions on integers that the laws of this part reach. Contracts of the functions on parts and paths, program and reference. The data of the struct Revocation (Revc), how a slice of it reads, and the contracts of the laws' helper functions over it. The data of the struct Reservation (Resv), how a slice of it reads, and the contracts of the laws' helper functions over it. The data of the struct AS (ASd), how a slice of it reads, and the contracts of the laws' helper functions over it. The data of the struct Link (Lnk), how a slice of it reads, and the contracts of the laws' helper functions over it. The data of the struct Topology, how it reads, and the contracts of the laws' helper functions over it. Contracts of the arithmetic modulo the prime, program and reference. Contracts of the functions on steps and on kinds of parts, program and reference, and of the laws over them. Contracts of turning parts around, program and reference. -/
import Derived.Deep.DeepCutAuto
import Derived.Deep.LoopGhost
import Derived.IntWalk
import Derived.Test.YteodlcpeoaggbaaGreatKV2
namespace Go.Proofs.YteodlcpeoaggbaaGreat
section
open Go.ChangeShapes Go.WideShapes Go.ChangeAt Go.RowKit Go.Deep
structure Hop where
  asn:Int
  ing:Int
  eg:Int
  exp:Int
  mac:Int
  deriving DecidableEq
def Hop.f (x:Hop):List Value:=[.int .i64 x.asn,.int .i64 x.ing,.int .i64 x.eg,.int .i64 x.exp,.int .i64 x.mac]
theorem Hop.flen (x:Hop):x.f.length=5:=rfl
def Hop.rep:Rep Hop:=Rep.flat 5 Hop.f Hop.flen
theorem Hop.one (x:Hop):∀ u∈x.f,u.oneCell'=true:=by
 intro u hu;simp only [Hop.f,List.mem_cons,List.not_mem_nil,or_false] at hu
 rcases hu with rfl | rfl | rfl | rfl | rfl <;> rfl
theorem Hop.at {w:World} {o:Option Addr} {m cap:Nat} {l:List Hop} (h:RdS Hop.rep w (.slice o m cap) l) (k:Nat) (hk:k<l.length) :
  ∃ b off,o=some ⟨b,off,none⟩∧w.cell? ⟨b,off+k * 5,none⟩=some (.int .i64 l[k].asn)∧w.cell? ⟨b,off+k * 5+1,none⟩=some (.int .i64 l[k].ing)∧w.cell? ⟨b,off+k * 5+2,none⟩=some (.int .i64 l[k].eg)∧w.cell? ⟨b,off+k * 5+3,none⟩=some (.int .i64 l[k].exp)∧w.cell? ⟨b,off+k * 5+4,none⟩=some (.int .i64 l[k].mac):=by
 obtain⟨b,off,ho,hc⟩:=RdS.at_flat h k hk;exact⟨b,off,ho,by simpa using hc 0 _ rfl,by simpa using hc 1 _ rfl,by simpa using hc 2 _ rfl,by simpa using hc 3 _ rfl,by simpa using hc 4 _ rfl⟩
theorem Hop.at_ext {w w':World} {b off k:Nat} {l:List Hop} {hk:k<l.length} (x:Ext w w') (h:w.cell? ⟨b,off+k * 5,none⟩=some (.int .i64 l[k].asn)∧w.cell? ⟨b,off+k * 5+1,none⟩=some (.int .i64 l[k].ing)∧w.cell? ⟨b,off+k * 5+2,none⟩=some (.int .i64 l[k].eg)∧w.cell? ⟨b,off+k * 5+3,none⟩=some (.int .i64 l[k].exp)∧w.cell? ⟨b,off+k * 5+4,none⟩=some (.int .i64 l[k].mac)) :
  w'.cell? ⟨b,off+k * 5,none⟩=some (.int .i64 l[k].asn)∧w'.cell? ⟨b,off+k * 5+1,none⟩=some (.int .i64 l[k].ing)∧w'.cell? ⟨b,off+k * 5+2,none⟩=some (.int .i64 l[k].eg)∧w'.cell? ⟨b,off+k * 5+3,none⟩=some (.int .i64 l[k].exp)∧w'.cell? ⟨b,off+k * 5+4,none⟩=some (.int .i64 l[k].mac):=by
 obtain⟨h0,h1,h2,h3,h4⟩:=h;exact⟨x.cell h0,x.cell h1,x.cell h2,x.cell h3,x.cell h4⟩
theorem Hop.own_at {base:Nat} {e:TypeId} {w:World} {g m cap:Nat} {l:List Hop} (h:OwnF Hop.f 5 base e w (.slice (some ⟨g,0,none⟩) m cap) l) (k:Nat) (hk:k<l.length) :
  w.cell? ⟨g,k * 5,none⟩=some (.int .i64 l[k].asn)∧w.cell? ⟨g,k * 5+1,none⟩=some (.int .i64 l[k].ing)∧w.cell? ⟨g,k * 5+2,none⟩=some (.int .i64 l[k].eg)∧w.cell? ⟨g,k * 5+3,none⟩=some (.int .i64 l[k].exp)∧w.cell? ⟨g,k * 5+4,none⟩=some (.int .i64 l[k].mac):=by
 have hc:=OwnF.cells_flat Hop.flen h k hk;exact⟨by simpa using hc 0 _ rfl,by simpa using hc 1 _ rfl,by simpa using hc 2 _ rfl,by simpa using hc 3 _ rfl,by simpa using hc 4 _ rfl⟩
theorem Tryz.infoHop:(Tryz.prog.info? 103).map (fun i=>(i.zero,i.size,i.bytes))=some (some (.agg #[.int .i64 0,.int .i64 0,.int .i64 0,.int .i64 0,.int .i64 0]),5,40):=by kernel_rfl
theorem Hop.sets {l:List Hop} {k:Nat} (hk:k<l.length) (x:Hop):((((((l.flatMap Hop.f).set (k * 5) (.int .i64 x.asn)).set (k * 5+1) (.int .i64 x.ing)).set (k * 5+2) (.int .i64 x.eg)).set (k * 5+3) (.int .i64 x.exp)).set (k * 5+4) (.int .i64 x.mac))=(l.set k x).flatMap Hop.f:=by
 induction l generalizing k with
 | nil => simp at hk
 | cons a l ih =>
  cases k with
  | zero => rfl
  | succ k =>
   have:=ih (k:=k) (by simpa using hk);simp only [List.flatMap_cons,List.set_cons_succ,← this,Hop.f];rw [show(k+1) * 5=k * 5+1+1+1+1+1 from by omega];rfl
theorem Hop.own_set {base:Nat} {e:TypeId} {w:World} {g m cap:Nat} {l:List Hop} (h:OwnF Hop.f 5 base e w (.slice (some ⟨g,0,none⟩) m cap) l) (k:Nat) (hk:k<l.length) (x:Hop) :
  OwnF Hop.f 5 base e (((((w.setCell ⟨g,k * 5,none⟩ (.int .i64 x.asn)).setCell ⟨g,k * 5+1,none⟩ (.int .i64 x.ing)).setCell ⟨g,k * 5+2,none⟩ (.int .i64 x.eg)).setCell ⟨g,k * 5+3,none⟩ (.int .i64 x.exp)).setCell ⟨g,k * 5+4,none⟩ (.int .i64 x.mac)) (.slice (some ⟨g,0,none⟩) m cap) (l.set k x) ∧
   w.grownBy (((((w.setCell ⟨g,k * 5,none⟩ (.int .i64 x.asn)).setCell ⟨g,k * 5+1,none⟩ (.int .i64 x.ing)).setCell ⟨g,k * 5+2,none⟩ (.int .i64 x.eg)).setCell ⟨g,k * 5+3,none⟩ (.int .i64 x.exp)).setCell ⟨g,k * 5+4,none⟩ (.int .i64 x.mac)) (some g):=by
 obtain rfl:=h.len;obtain⟨h0,g0⟩:=World.ownsRow.stored h (k * 5) (.int .i64 x.asn);obtain⟨h1,g1⟩:=World.ownsRow.stored h0 (k * 5+1) (.int .i64 x.ing);obtain⟨h2,g2⟩:=World.ownsRow.stored h1 (k * 5+2) (.int .i64 x.eg);obtain⟨h3,g3⟩:=World.ownsRow.stored h2 (k * 5+3) (.int .i64 x.exp);obtain⟨h4,g4⟩:=World.ownsRow.stored h3 (k * 5+4) (.int .i64 x.mac);rw [Hop.sets hk] at h4;refine⟨?_,((((g0.trans g1).trans g2).trans g3).trans g4)⟩;unfold OwnF;rw [List.length_set];exact h4
theorem Hop.ext' {x y:Hop} (h0:x.asn=y.asn) (h1:x.ing=y.ing) (h2:x.eg=y.eg) (h3:x.exp=y.exp) (h4:x.mac=y.mac):x=y:=by
 cases x;cases y;simp_all
def Hop.mk' (k:Int):Hop:=⟨k,k+1,k+1+1,k+1+1+1,k+1+1+1+1⟩
def Hop.ok (x:Hop):Prop:=I64 x.asn∧I64 x.ing∧I64 x.eg∧I64 x.exp∧I64 x.mac
structure Part where
  kind:Int
  ts:Int
  beta:Int
  hops:List Hop
  deriving DecidableEq
def Part.c (x:Part) (v:Value):List Value:=[.int .i64 x.kind,.int .i64 x.ts,.int .i64 x.beta,v]
theorem Part.clen (x:Part) (v:Value):(x.c v).length=4:=rfl
def Part.rep:Rep Part where
  cells:=4
  rd w cs x:=∃ v,cs=x.c v∧RdS Hop.rep w v x.hops
  len:=by rintro w cs a ⟨v,rfl,_⟩;rfl
  ext:=by rintro w w' cs a e ⟨v,rfl,h⟩;exact⟨v,rfl,h.ext e⟩
def Part.ok (x:Part):Prop:=I64 x.kind∧I64 x.ts∧I64 x.beta∧∀ y∈x.hops,Hop.ok y
def Part.size (x:Part):Nat:=x.hops.length
theorem Part.at {w:World} {o:Option Addr} {m cap:Nat} {l:List Part} (h:RdS Part.rep w (.slice o m cap) l) (k:Nat) (hk:k<l.length) :
  ∃ b off oh ch, o = some ⟨b, off, none⟩ ∧ (w.cell? ⟨b, off + k * 4, none⟩ = some (.int .i64 l[k].kind) ∧ w.cell? ⟨b, off + k * 4 + 1, none⟩ = some (.int .i64 l[k].ts) ∧ w.cell? ⟨b, off + k * 4 + 2, none⟩ = some (.int .i64 l[k].beta) ∧
   w.cell? ⟨b, off + k * 4 + 3, none⟩ = some (.slice oh l[k].hops.length ch)) ∧ RdS Hop.rep w (.slice oh l[k].hops.length ch) l[k].hops := by
 obtain⟨o',cap',hv,h1,h2,hn,h3⟩:=h;obtain⟨b,off,cs,ho,hc,v,rfl,hr⟩:=h3 k hk
 cases hv
 obtain⟨oh,ch,rfl,_⟩:=hr.shape;exact⟨b,off,oh,ch,ho,⟨hc 0 _ rfl,hc 1 _ rfl,hc 2 _ rfl,hc 3 _ rfl⟩,hr⟩
theorem Part.at_ext {w w':World} {b off k:Nat} {v0 v1 v2 v3:Value} (x:Ext w w') (h:w.cell? ⟨b,off+k * 4,none⟩=some v0∧w.cell? ⟨b,off+k * 4+1,none⟩=some v1∧w.cell? ⟨b,off+k * 4+2,none⟩=some v2∧w.cell? ⟨b,off+k * 4+3,none⟩=some v3) :
  w'.cell? ⟨b,off+k * 4,none⟩=some v0∧w'.cell? ⟨b,off+k * 4+1,none⟩=some v1∧w'.cell? ⟨b,off+k * 4+2,none⟩=some v2∧w'.cell? ⟨b,off+k * 4+3,none⟩=some v3:=
 ⟨x.cell h.1,x.cell h.2.1,x.cell h.2.2.1,x.cell h.2.2.2⟩
structure Pth where
  parts:List Part
  deriving DecidableEq
def Pth.c (_:Pth) (v:Value):List Value:=[v]
def Pth.rep:Rep Pth where
  cells:=1
  rd w cs x:=∃ v,cs=x.c v∧RdS Part.rep w v x.parts
  len:=by rintro w cs a ⟨v,rfl,_⟩;rfl
  ext:=by rintro w w' cs a e ⟨v,rfl,h⟩;exact⟨v,rfl,h.ext e⟩
def Pth.ok (x:Pth):Prop:=∀ y∈x.parts,Part.ok y
def hopsN (l:List Part):Nat:=(l.map Part.size).sum
theorem hopsN_snoc {l:List Part} {k:Nat} (hk:k<l.length):hopsN (l.take (k+1))=hopsN (l.take k)+l[k].hops.length:=by
 unfold hopsN;rw [List.take_succ_eq_append_getElem hk,List.map_append,List.sum_append];simp only [List.map_cons,List.map_nil,List.sum_cons,List.sum_nil,Part.size];omega
theorem hopsN_take_le (l:List Part) (k:Nat):hopsN (l.take k)≤hopsN l:=by
 unfold hopsN;have h:=List.take_append_drop k l;have h2:(l.map Part.size).sum=((l.take k ++ l.drop k).map Part.size).sum:=by rw [h]
 rw [List.map_append,List.sum_append] at h2;omega
theorem hopsN_le {l:List Part} {k:Nat} (hk:k<l.length):l[k].hops.length≤hopsN l:=by
 have h1:=hopsN_snoc hk;have h2:=hopsN_take_le l (k+1);omega
def Pth.size (x:Pth):Nat:=x.parts.length+hopsN x.parts
def Part.own:Own Part:=Own.nest 4 Part.c Part.clen (·.hops) 99 (Own.flat Hop.f 5 Hop.flen 103)
theorem Part.ord {S:Nat→Prop} {w:World} {v:Value} {l:List Part} (h:Part.own.own S w v l):RdS Part.rep w v l:=Part.own.rd h
theorem Tryz.infoPart:(Tryz.prog.info? 99).map (fun i=>(i.zero,i.size,i.bytes))=some (some (.agg #[.int .i64 0,.int .i64 0,.int .i64 0,.slice none 0 0]),4,48):=by kernel_rfl
structure Step where
  asn:Int
  ing:Int
  eg:Int
  deriving DecidableEq
def Step.f (x:Step):List Value:=[.int .i64 x.asn,.int .i64 x.ing,.int .i64 x.eg]
theorem Step.flen (x:Step):x.f.length=3:=rfl
def Step.rep:Rep Step:=Rep.flat 3 Step.f Step.flen
theorem Step.one (x:Step):∀ u∈x.f,u.oneCell'=true:=by
 intro u hu;simp only [Step.f,List.mem_cons,List.not_mem_nil,or_false] at hu
 rcases hu with rfl | rfl | rfl <;> rfl
theorem Step.at {w:World} {o:Option Addr} {m cap:Nat} {l:List Step} (h:RdS Step.rep w (.slice o m cap) l) (k:Nat) (hk:k<l.length) :
  ∃ b off,o=some ⟨b,off,none⟩∧w.cell? ⟨b,off+k * 3,none⟩=some (.int .i64 l[k].asn)∧w.cell? ⟨b,off+k * 3+1,none⟩=some (.int .i64 l[k].ing)∧w.cell? ⟨b,off+k * 3+2,none⟩=some (.int .i64 l[k].eg):=by
 obtain⟨b,off,ho,hc⟩:=RdS.at_flat h k hk;exact⟨b,off,ho,by simpa using hc 0 _ rfl,by simpa using hc 1 _ rfl,by simpa using hc 2 _ rfl⟩
theorem Step.at_ext {w w':World} {b off k:Nat} {l:List Step} {hk:k<l.length} (x:Ext w w') (h:w.cell? ⟨b,off+k * 3,none⟩=some (.int .i64 l[k].asn)∧w.cell? ⟨b,off+k * 3+1,none⟩=some (.int .i64 l[k].ing)∧w.cell? ⟨b,off+k * 3+2,none⟩=some (.int .i64 l[k].eg)) :
  w'.cell? ⟨b,off+k * 3,none⟩=some (.int .i64 l[k].asn)∧w'.cell? ⟨b,off+k * 3+1,none⟩=some (.int .i64 l[k].ing)∧w'.cell? ⟨b,off+k * 3+2,none⟩=some (.int .i64 l[k].eg):=by
 obtain⟨h0,h1,h2⟩:=h;exact⟨x.cell h0,x.cell h1,x.cell h2⟩
theorem Step.own_at {base:Nat} {e:TypeId} {w:World} {g m cap:Nat} {l:List Step} (h:OwnF Step.f 3 base e w (.slice (some ⟨g,0,none⟩) m cap) l) (k:Nat) (hk:k<l.length) :
  w.cell? ⟨g,k * 3,none⟩=some (.int .i64 l[k].asn)∧w.cell? ⟨g,k * 3+1,none⟩=some (.int .i64 l[k].ing)∧w.cell? ⟨g,k * 3+2,none⟩=some (.int .i64 l[k].eg):=by
 have hc:=OwnF.cells_flat Step.flen h k hk;exact⟨by simpa using hc 0 _ rfl,by simpa using hc 1 _ rfl,by simpa using hc 2 _ rfl⟩
theorem Tryz.infoStep:(Tryz.prog.info? 79).map (fun i=>(i.zero,i.size,i.bytes))=some (some (.agg #[.int .i64 0,.int .i64 0,.int .i64 0]),3,24):=by kernel_rfl
theorem Step.sets {l:List Step} {k:Nat} (hk:k<l.length) (x:Step):((((l.flatMap Step.f).set (k * 3) (.int .i64 x.asn)).set (k * 3+1) (.int .i64 x.ing)).set (k * 3+2) (.int .i64 x.eg))=(l.set k x).flatMap Step.f:=by
 induction l generalizing k with
 | nil => simp at hk
 | cons a l ih =>
  cases k with
  | zero => rfl
  | succ k =>
   have:=ih (k:=k) (by simpa using hk);simp only [List.flatMap_cons,List.set_cons_succ,← this,Step.f];rw [show(k+1) * 3=k * 3+1+1+1 from by omega];rfl
theorem Step.own_set {base:Nat} {e:TypeId} {w:World} {g m cap:Nat} {l:List Step} (h:OwnF Step.f 3 base e w (.slice (some ⟨g,0,none⟩) m cap) l) (k:Nat) (hk:k<l.length) (x:Step) :
  OwnF Step.f 3 base e (((w.setCell ⟨g,k * 3,none⟩ (.int .i64 x.asn)).setCell ⟨g,k * 3+1,none⟩ (.int .i64 x.ing)).setCell ⟨g,k * 3+2,none⟩ (.int .i64 x.eg)) (.slice (some ⟨g,0,none⟩) m cap) (l.set k x) ∧
   w.grownBy (((w.setCell ⟨g,k * 3,none⟩ (.int .i64 x.asn)).setCell ⟨g,k * 3+1,none⟩ (.int .i64 x.ing)).setCell ⟨g,k * 3+2,none⟩ (.int .i64 x.eg)) (some g):=by
 obtain rfl:=h.len;obtain⟨h0,g0⟩:=World.ownsRow.stored h (k * 3) (.int .i64 x.asn);obtain⟨h1,g1⟩:=World.ownsRow.stored h0 (k * 3+1) (.int .i64 x.ing);obtain⟨h2,g2⟩:=World.ownsRow.stored h1 (k * 3+2) (.int .i64 x.eg);rw [Step.sets hk] at h2;refine⟨?_,((g0.trans g1).trans g2)⟩;unfold OwnF;rw [List.length_set];exact h2
theorem Step.ext' {x y:Step} (h0:x.asn=y.asn) (h1:x.ing=y.ing) (h2:x.eg=y.eg):x=y:=by
 cases x;cases y;simp_all
def Step.mk' (k:Int):Step:=⟨k,k+1,k+1+1⟩
def Step.ok (x:Step):Prop:=I64 x.asn∧I64 x.ing∧I64 x.eg
end
section
open Go.RowKit
def isRev (k:Int):Bool:=k == 1 || k == 3
def hopIn (k:Int) (h:Hop):Int:=if isRev k then h.eg else h.ing
def hopEg (k:Int) (h:Hop):Int:=if isRev k then h.ing else h.eg
def partIn (p:Part) (i:Int):Int:=if 0≤i∧i≤p.hops.length - 1 then (match p.hops[i.toNat]? with | some h=>hopIn p.kind h | none=>0) else 0
def partEg (p:Part) (i:Int):Int:=if 0≤i∧i≤p.hops.length - 1 then (match p.hops[i.toNat]? with | some h=>hopEg p.kind h | none=>0) else 0
theorem partIn_at {p:Part} {i:Nat} (h:i<p.hops.length):partIn p i=hopIn p.kind p.hops[i]:=by
 unfold partIn;rw [if_pos (by omega)];simp [h]
theorem partEg_at {p:Part} {i:Nat} (h:i<p.hops.length):partEg p i=hopEg p.kind p.hops[i]:=by
 unfold partEg;rw [if_pos (by omega)];simp [h]
def mergeB (m:Bool) (out:List Step) (h:Hop):Bool:=m && (match out.getLast? with | some s=>s.asn == h.asn | none=>false)
def stepOf (k:Int) (h:Hop):Step:=⟨h.asn,hopIn k h,hopEg k h⟩
def stepOne (m:Bool) (k:Int) (out:List Step) (h:Hop):List Step:=
  if mergeB m out h then (match out.getLast? with | some s=>out.set (out.length - 1) ⟨s.asn,s.ing,hopEg k h⟩ | none=>out) else out ++ [stepOf k h]
def hopsTo (m:Bool) (k:Int) (out:List Step) (hs:List Hop):Nat→List Step
  | 0 => out
  | i + 1 => match hs[i]? with
    | some h => stepOne (m && i == 0) k (hopsTo m k out hs i) h
    | none => hopsTo m k out hs i
def partsTo (ps:List Part):Nat→List Step
  | 0 => []
  | k + 1 => match ps[k]? with
    | some p => hopsTo (decide (0 < k)) p.kind (partsTo ps k) p.hops p.hops.length
    | none => partsTo ps k
def endsIn (l:List Step):List Step:=if h:0<l.length then l.set 0 ⟨l[0].asn,0,l[0].eg⟩ else l
def endsEg (l:List Step):List Step:=if h:0<l.length then l.set (l.length - 1) ⟨l[l.length - 1].asn,l[l.length - 1].ing,0⟩ else l
def pathSteps (ps:List Part):List Step:=endsEg (endsIn (partsTo ps ps.length))
theorem hopsTo_succ {m:Bool} {k:Int} {out:List Step} {hs:List Hop} {i:Nat} (h:i<hs.length):hopsTo m k out hs (i+1)=stepOne (m && i == 0) k (hopsTo m k out hs i) hs[i]:=by
 simp [hopsTo,h]
theorem partsTo_succ {ps:List Part} {k:Nat} (h:k<ps.length):partsTo ps (k+1)=hopsTo (decide (0<k)) ps[k].kind (partsTo ps k) ps[k].hops ps[k].hops.length:=by
 simp [partsTo,h]
theorem stepOne_no {m:Bool} {k:Int} {out:List Step} {h:Hop} (hm:mergeB m out h=false):stepOne m k out h=out ++ [stepOf k h]:=by simp [stepOne,hm]
theorem mergeB_len {m:Bool} {out:List Step} {h:Hop} (hm:mergeB m out h=true):0<out.length:=by
 cases out with
 | nil => simp [mergeB] at hm
 | cons a l => simp
theorem getLast_at {α:Type} {out:List α} (h:0<out.length):out.getLast?=some out[out.length - 1]:=by
 rw [List.getLast?_eq_getElem?,List.getElem?_eq_getElem (by omega)]
theorem mergeB_at {m:Bool} {out:List Step} {h:Hop} (hl:0<out.length):mergeB m out h=(m && (out[out.length - 1].asn == h.asn)):=by
 unfold mergeB;rw [getLast_at hl]
theorem mergeB_nil {m:Bool} {h:Hop}:mergeB m [] h=false:=by simp [mergeB]
theorem stepOne_yes {m:Bool} {k:Int} {out:List Step} {h:Hop} (hm:mergeB m out h=true) (hn:0<out.length):stepOne m k out h=out.set (out.length - 1) ⟨(out[out.length - 1]'(by omega)).asn,(out[out.length - 1]'(by omega)).ing,hopEg k h⟩:=by
 simp only [stepOne,hm,if_true];rw [getLast_at hn]
theorem stepOne_yes2 {m:Bool} {k:Int} {out:List Step} {h:Hop} (hm:mergeB m out h=true) (hn:0<out.length):stepOne m k out h=out.take (out.length - 1) ++ [⟨h.asn,(out[out.length - 1]'(by omega)).ing,hopEg k h⟩]:=by
 rw [stepOne_yes hm hn]
 have h1:out[out.length - 1].asn=h.asn:=by
  rw [mergeB_at hn] at hm;simp only [Bool.and_eq_true,beq_iff_eq] at hm;exact hm.2
 rw [h1]
 apply List.ext_getElem
 ·
  simp;omega
 intro i h1 h2;simp only [List.length_set] at h1;rw [List.getElem_set]
 by_cases hi:out.length - 1=i
 ·
  subst hi;rw [if_pos rfl,List.getElem_append_right (by simp)]
  simp
 rw [if_neg hi,List.getElem_append_left (by simp;omega)]
 simp
theorem stepOne_len (m:Bool) (k:Int) (out:List Step) (h:Hop):(stepOne m k out h).length≤out.length+1:=by
 cases hm:mergeB m out h
 ·
  rw [stepOne_no hm];simp
 rw [stepOne_yes hm (mergeB_len hm)];simp
theorem hopsTo_len (m:Bool) (k:Int) (out:List Step) (hs:List Hop):∀ i,(hopsTo m k out hs i).length≤out.length+i
 | 0 => Ae _
 | i + 1 => by
  have ih:=hopsTo_len m k out hs i;unfold hopsTo
  split
  ·
   have:=stepOne_len (m && i == 0) k (hopsTo m k out hs i) (by assumption);omega
  omega
theorem partsTo_len (ps:List Part):∀ k,k≤ps.length→(partsTo ps k).length≤hopsN (ps.take k)
 | 0, _ => by simp [partsTo]
 | k + 1, hk => by
  have ih:=partsTo_len ps k (by omega);rw [partsTo_succ (by omega),hopsN_snoc (by omega)];have:=hopsTo_len (decide (0<k)) ps[k].kind (partsTo ps k) ps[k].hops ps[k].hops.length;omega
theorem endsIn_len (l:List Step):(endsIn l).length=l.length:=by unfold endsIn;split <;> simp
theorem endsEg_len (l:List Step):(endsEg l).length=l.length:=by unfold endsEg;split <;> simp
theorem pathSteps_len (ps:List Part):(pathSteps ps).length≤hopsN ps:=by
 unfold pathSteps;rw [endsEg_len,endsIn_len];have:=partsTo_len ps ps.length (Ae _)
 rwa [List.take_length] at this
def endsOf (l:List Step):Int×Int:=match l with
  | [] => (-1, -1)
  | a :: l => (a.asn, ((a :: l).getLast (by simp)).asn)
theorem endsOf_nil {l:List Step} (h:l.length=0):endsOf l=(-1,-1):=by
 unfold endsOf;rw [List.eq_nil_of_length_eq_zero h]
theorem endsOf_at {l:List Step} (h:0<l.length):endsOf l=(l[0].asn,l[l.length - 1].asn):=by
 cases l with
 | nil => simp at h
 | cons a l => simp [endsOf, List.getLast_eq_getElem]
def ends (ps:List Part):Int×Int:=endsOf (pathSteps ps)
end
section
open Go.ChangeShapes Go.WideShapes Go.ChangeAt Go.RowKit Go.Deep
set_option maxHeartbeats 2000000
def inR (n a b:Int):Bool:=decide (a≤n) && decide (n≤b)
theorem inR_true {n a b:Int}:inR n a b=true↔a≤n∧n≤b:=by simp [inR]
theorem inR_false {n a b:Int}:inR n a b=false↔¬ (a≤n∧n≤b):=by rw [← inR_true];simp
theorem i_InRange (n a b:Int) (w:World) :
  Calls Tryz.prog 110 #[.int .i64 n,.int .i64 a,.int .i64 b] w fun e w'=>e=.returned (.bool (inR n a b))∧w=w':=by
 go_enter Tryz.func110,Tryz.ntmps110
 go_wp2
 all_goals
  go_ret
  refine⟨Ah ?_,rfl⟩
  simp [inR, *]
  try omega
theorem s_l1In (n a b:Int) (w:World) :
  Calls Tryz.prog 117 #[.int .i64 n,.int .i64 a,.int .i64 b] w fun e w'=>e=.returned (.bool (inR n a b))∧w=w':=by
 go_enter Tryz.func117,Tryz.ntmps117
 go_wp2
 all_goals
  go_ret
  refine⟨Ah ?_,rfl⟩
  simp [inR, *]
  try omega
theorem elemStp:Nonempty (Elem Tryz.prog 38 79 3 24):=Elem.mk' Tryz.underlying38 Tryz.infoStep rfl (by decide)
theorem i_IsReversed (k:Int) (w:World) :
  Calls Tryz.prog 124 #[.int .i64 k] w fun e w'=>e=.returned (.bool (isRev k))∧w=w':=by
 go_enter Tryz.func124,Tryz.ntmps124
 go_wp2
 all_goals
  go_ret
  refine⟨Ah ?_,rfl⟩
  simp [isRev, *]
theorem s_IsReversed (k:Int) (w:World) :
  Calls Tryz.prog 137 #[.int .i64 k] w fun e w'=>e=.returned (.bool (isRev k))∧w=w':=by
 go_enter Tryz.func137,Tryz.ntmps137
 go_wp2
 all_goals
  go_ret
  refine⟨Ah ?_,rfl⟩
  simp [isRev, *]
theorem i_PartIngress (x:Part) (v:Value) (i:Int) (w:World) (r:RdS Hop.rep w v x.hops) :
  Calls Tryz.prog 74 #[.agg #[.int .i64 x.kind,.int .i64 x.ts,.int .i64 x.beta,v],.int .i64 i] w fun e w'=>e=.returned (.int .i64 (partIn x i))∧Ext w w':=by
 obtain⟨o,cap,rfl,hsm⟩:=r.shape;have hx0:Ext w (w.alloc (.cells #[.int .i64 x.kind,.int .i64 x.ts,.int .i64 x.beta,.slice o x.hops.length cap] 99)):=(Ab _).alloc _
 go_enter Tryz.func74,Tryz.ntmps74
 go_wp2_with fail
 refine(i_InRange _ _ _ _).mono ?_;rintro e w1 ⟨rfl,rfl⟩
 cases hin:inR i 0 (x.hops.length - 1)
 ·
  have he:partIn x i=0:=by unfold partIn;rw [if_neg (inR_false.1 hin)]
  have HE:=Ac he;clear he
  go_wp2_with fail
  go_ret
  exact⟨ret_int HE.out.symm,hx0⟩
 obtain⟨h1,h2⟩:=inR_true.1 hin;obtain⟨k,rfl⟩:=Int.eq_ofNat_of_zero_le h1;have hk:k<x.hops.length:=by omega
 have he:=partIn_at hk;have HE:=Ac he;clear he;obtain⟨b,off,rfl,hc⟩:=Hop.at (r.ext hx0) k hk
 go_wp2_with fail
 refine(i_IsReversed _ _).mono ?_;rintro e w1 ⟨rfl,rfl⟩
 cases hrv:isRev x.kind
 ·
  have hh:hopIn x.kind x.hops[k]=x.hops[k].ing:=by simp [hopIn,hrv]
  have HH:=Ac (HE.out.trans hh);clear hh
  go_wp2_with fail
  go_ret
  exact⟨ret_int HH.out.symm,hx0⟩
 have hh:hopIn x.kind x.hops[k]=x.hops[k].eg:=by simp [hopIn,hrv]
 have HH:=Ac (HE.out.trans hh);clear hh
 go_wp2_with fail
 go_ret
 exact⟨ret_int HH.out.symm,hx0⟩
theorem i_PartEgress (x:Part) (v:Value) (i:Int) (w:World) (r:RdS Hop.rep w v x.hops) :
  Calls Tryz.prog 73 #[.agg #[.int .i64 x.kind,.int .i64 x.ts,.int .i64 x.beta,v],.int .i64 i] w fun e w'=>e=.returned (.int .i64 (partEg x i))∧Ext w w':=by
 obtain⟨o,cap,rfl,hsm⟩:=r.shape;have hx0:Ext w (w.alloc (.cells #[.int .i64 x.kind,.int .i64 x.ts,.int .i64 x.beta,.slice o x.hops.length cap] 99)):=(Ab _).alloc _
 go_enter Tryz.func73,Tryz.ntmps73
 go_wp2_with fail
 refine(i_InRange _ _ _ _).mono ?_;rintro e w1 ⟨rfl,rfl⟩
 cases hin:inR i 0 (x.hops.length - 1)
 ·
  have he:partEg x i=0:=by unfold partEg;rw [if_neg (inR_false.1 hin)]
  have HE:=Ac he;clear he
  go_wp2_with fail
  go_ret
  exact⟨ret_int HE.out.symm,hx0⟩
 obtain⟨h1,h2⟩:=inR_true.1 hin;obtain⟨k,rfl⟩:=Int.eq_ofNat_of_zero_le h1;have hk:k<x.hops.length:=by omega
 have he:=partEg_at hk;have HE:=Ac he;clear he;obtain⟨b,off,rfl,hc⟩:=Hop.at (r.ext hx0) k hk
 go_wp2_with fail
 refine(i_IsReversed _ _).mono ?_;rintro e w1 ⟨rfl,rfl⟩
 cases hrv:isRev x.kind
 ·
  have hh:hopEg x.kind x.hops[k]=x.hops[k].eg:=by simp [hopEg,hrv]
  have HH:=Ac (HE.out.trans hh);clear hh
  go_wp2_with fail
  go_ret
  exact⟨ret_int HH.out.symm,hx0⟩
 have hh:hopEg x.kind x.hops[k]=x.hops[k].ing:=by simp [hopEg,hrv]
 have HH:=Ac (HE.out.trans hh);clear hh
 go_wp2_with fail
 go_ret
 exact⟨ret_int HH.out.symm,hx0⟩
theorem s_PartIngress (x:Part) (v:Value) (i:Int) (w:World) (r:RdS Hop.rep w v x.hops) :
  Calls Tryz.prog 93 #[.agg #[.int .i64 x.kind,.int .i64 x.ts,.int .i64 x.beta,v],.int .i64 i] w fun e w'=>e=.returned (.int .i64 (partIn x i))∧Ext w w':=by
 obtain⟨o,cap,rfl,hsm⟩:=r.shape;have hx0:Ext w (w.alloc (.cells #[.int .i64 x.kind,.int .i64 x.ts,.int .i64 x.beta,.slice o x.hops.length cap] 99)):=(Ab _).alloc _
 go_enter Tryz.func93,Tryz.ntmps93
 go_wp2_with fail
 refine(s_l1In _ _ _ _).mono ?_;rintro e w1 ⟨rfl,rfl⟩
 cases hin:inR i 0 (x.hops.length - 1)
 ·
  have he:partIn x i=0:=by unfold partIn;rw [if_neg (inR_false.1 hin)]
  have HE:=Ac he;clear he
  go_wp2_with fail
  go_ret
  exact⟨ret_int HE.out.symm,hx0⟩
 obtain⟨h1,h2⟩:=inR_true.1 hin;obtain⟨k,rfl⟩:=Int.eq_ofNat_of_zero_le h1;have hk:k<x.hops.length:=by omega
 have he:=partIn_at hk;have HE:=Ac he;clear he;obtain⟨b,off,rfl,hc⟩:=Hop.at (r.ext hx0) k hk
 go_wp2_with fail
 refine(s_IsReversed _ _).mono ?_;rintro e w1 ⟨rfl,rfl⟩
 cases hrv:isRev x.kind
 ·
  have hh:hopIn x.kind x.hops[k]=x.hops[k].ing:=by simp [hopIn,hrv]
  have HH:=Ac (HE.out.trans hh);clear hh
  go_wp2_with fail
  go_ret
  exact⟨ret_int HH.out.symm,hx0⟩
 have hh:hopIn x.kind x.hops[k]=x.hops[k].eg:=by simp [hopIn,hrv]
 have HH:=Ac (HE.out.trans hh);clear hh
 go_wp2_with fail
 go_ret
 exact⟨ret_int HH.out.symm,hx0⟩
theorem s_PartEgress (x:Part) (v:Value) (i:Int) (w:World) (r:RdS Hop.rep w v x.hops) :
  Calls Tryz.prog 94 #[.agg #[.int .i64 x.kind,.int .i64 x.ts,.int .i64 x.beta,v],.int .i64 i] w fun e w'=>e=.returned (.int .i64 (partEg x i))∧Ext w w':=by
 obtain⟨o,cap,rfl,hsm⟩:=r.shape;have hx0:Ext w (w.alloc (.cells #[.int .i64 x.kind,.int .i64 x.ts,.int .i64 x.beta,.slice o x.hops.length cap] 99)):=(Ab _).alloc _
 go_enter Tryz.func94,Tryz.ntmps94
 go_wp2_with fail
 refine(s_l1In _ _ _ _).mono ?_;rintro e w1 ⟨rfl,rfl⟩
 cases hin:inR i 0 (x.hops.length - 1)
 ·
  have he:partEg x i=0:=by unfold partEg;rw [if_neg (inR_false.1 hin)]
  have HE:=Ac he;clear he
  go_wp2_with fail
  go_ret
  exact⟨ret_int HE.out.symm,hx0⟩
 obtain⟨h1,h2⟩:=inR_true.1 hin;obtain⟨k,rfl⟩:=Int.eq_ofNat_of_zero_le h1;have hk:k<x.hops.length:=by omega
 have he:=partEg_at hk;have HE:=Ac he;clear he;obtain⟨b,off,rfl,hc⟩:=Hop.at (r.ext hx0) k hk
 go_wp2_with fail
 refine(s_IsReversed _ _).mono ?_;rintro e w1 ⟨rfl,rfl⟩
 cases hrv:isRev x.kind
 ·
  have hh:hopEg x.kind x.hops[k]=x.hops[k].eg:=by simp [hopEg,hrv]
  have HH:=Ac (HE.out.trans hh);clear hh
  go_wp2_with fail
  go_ret
  exact⟨ret_int HH.out.symm,hx0⟩
 have hh:hopEg x.kind x.hops[k]=x.hops[k].ing:=by simp [hopEg,hrv]
 have HH:=Ac (HE.out.trans hh);clear hh
 go_wp2_with fail
 go_ret
 exact⟨ret_int HH.out.symm,hx0⟩
structure Revc where
  asn:Int
  iface:Int
  till:Int
  deriving DecidableEq
def Revc.f (x:Revc):List Value:=[.int .i64 x.asn,.int .i64 x.iface,.int .i64 x.till]
theorem Revc.flen (x:Revc):x.f.length=3:=rfl
def Revc.rep:Rep Revc:=Rep.flat 3 Revc.f Revc.flen
theorem Revc.one (x:Revc):∀ u∈x.f,u.oneCell'=true:=by
 intro u hu;simp only [Revc.f,List.mem_cons,List.not_mem_nil,or_false] at hu
 rcases hu with rfl | rfl | rfl <;> rfl
theorem Revc.at {w:World} {o:Option Addr} {m cap:Nat} {l:List Revc} (h:RdS Revc.rep w (.slice o m cap) l) (k:Nat) (hk:k<l.length) :
  ∃ b off,o=some ⟨b,off,none⟩∧w.cell? ⟨b,off+k * 3,none⟩=some (.int .i64 l[k].asn)∧w.cell? ⟨b,off+k * 3+1,none⟩=some (.int .i64 l[k].iface)∧w.cell? ⟨b,off+k * 3+2,none⟩=some (.int .i64 l[k].till):=by
 obtain⟨b,off,ho,hc⟩:=RdS.at_flat h k hk;exact⟨b,off,ho,by simpa using hc 0 _ rfl,by simpa using hc 1 _ rfl,by simpa using hc 2 _ rfl⟩
theorem Revc.at_ext {w w':World} {b off k:Nat} {l:List Revc} {hk:k<l.length} (x:Ext w w') (h:w.cell? ⟨b,off+k * 3,none⟩=some (.int .i64 l[k].asn)∧w.cell? ⟨b,off+k * 3+1,none⟩=some (.int .i64 l[k].iface)∧w.cell? ⟨b,off+k * 3+2,none⟩=some (.int .i64 l[k].till)) :
  w'.cell? ⟨b,off+k * 3,none⟩=some (.int .i64 l[k].asn)∧w'.cell? ⟨b,off+k * 3+1,none⟩=some (.int .i64 l[k].iface)∧w'.cell? ⟨b,off+k * 3+2,none⟩=some (.int .i64 l[k].till):=by
 obtain⟨h0,h1,h2⟩:=h;exact⟨x.cell h0,x.cell h1,x.cell h2⟩
theorem Revc.own_at {base:Nat} {e:TypeId} {w:World} {g m cap:Nat} {l:List Revc} (h:OwnF Revc.f 3 base e w (.slice (some ⟨g,0,none⟩) m cap) l) (k:Nat) (hk:k<l.length) :
  w.cell? ⟨g,k * 3,none⟩=some (.int .i64 l[k].asn)∧w.cell? ⟨g,k * 3+1,none⟩=some (.int .i64 l[k].iface)∧w.cell? ⟨g,k * 3+2,none⟩=some (.int .i64 l[k].till):=by
 have hc:=OwnF.cells_flat Revc.flen h k hk;exact⟨by simpa using hc 0 _ rfl,by simpa using hc 1 _ rfl,by simpa using hc 2 _ rfl⟩
theorem Revc.sets {l:List Revc} {k:Nat} (hk:k<l.length) (x:Revc):((((l.flatMap Revc.f).set (k * 3) (.int .i64 x.asn)).set (k * 3+1) (.int .i64 x.iface)).set (k * 3+2) (.int .i64 x.till))=(l.set k x).flatMap Revc.f:=by
 induction l generalizing k with
 | nil => simp at hk
 | cons a l ih =>
  cases k with
  | zero => rfl
  | succ k =>
   have:=ih (k:=k) (by simpa using hk);simp only [List.flatMap_cons,List.set_cons_succ,← this,Revc.f];rw [show(k+1) * 3=k * 3+1+1+1 from by omega];rfl
theorem Revc.own_set {base:Nat} {e:TypeId} {w:World} {g m cap:Nat} {l:List Revc} (h:OwnF Revc.f 3 base e w (.slice (some ⟨g,0,none⟩) m cap) l) (k:Nat) (hk:k<l.length) (x:Revc) :
  OwnF Revc.f 3 base e (((w.setCell ⟨g,k * 3,none⟩ (.int .i64 x.asn)).setCell ⟨g,k * 3+1,none⟩ (.int .i64 x.iface)).setCell ⟨g,k * 3+2,none⟩ (.int .i64 x.till)) (.slice (some ⟨g,0,none⟩) m cap) (l.set k x) ∧
   w.grownBy (((w.setCell ⟨g,k * 3,none⟩ (.int .i64 x.asn)).setCell ⟨g,k * 3+1,none⟩ (.int .i64 x.iface)).setCell ⟨g,k * 3+2,none⟩ (.int .i64 x.till)) (some g):=by
 obtain rfl:=h.len;obtain⟨h0,g0⟩:=World.ownsRow.stored h (k * 3) (.int .i64 x.asn);obtain⟨h1,g1⟩:=World.ownsRow.stored h0 (k * 3+1) (.int .i64 x.iface);obtain⟨h2,g2⟩:=World.ownsRow.stored h1 (k * 3+2) (.int .i64 x.till);rw [Revc.sets hk] at h2;refine⟨?_,((g0.trans g1).trans g2)⟩;unfold OwnF;rw [List.length_set];exact h2
theorem Revc.ext' {x y:Revc} (h0:x.asn=y.asn) (h1:x.iface=y.iface) (h2:x.till=y.till):x=y:=by
 cases x;cases y;simp_all
def Revc.mk' (k:Int):Revc:=⟨k,k+1,k+1+1⟩
def Revc.ok (x:Revc):Prop:=I64 x.asn∧I64 x.iface∧I64 x.till
structure Resv where
  id:Int
  asn:Int
  iface:Int
  rate:Int
  till:Int
  deriving DecidableEq
def Resv.f (x:Resv):List Value:=[.int .i64 x.id,.int .i64 x.asn,.int .i64 x.iface,.int .i64 x.rate,.int .i64 x.till]
theorem Resv.flen (x:Resv):x.f.length=5:=rfl
def Resv.rep:Rep Resv:=Rep.flat 5 Resv.f Resv.flen
theorem Resv.one (x:Resv):∀ u∈x.f,u.oneCell'=true:=by
 intro u hu;simp only [Resv.f,List.mem_cons,List.not_mem_nil,or_false] at hu
 rcases hu with rfl | rfl | rfl | rfl | rfl <;> rfl
theorem Resv.at {w:World} {o:Option Addr} {m cap:Nat} {l:List Resv} (h:RdS Resv.rep w (.slice o m cap) l) (k:Nat) (hk:k<l.length) :
  ∃ b off,o=some ⟨b,off,none⟩∧w.cell? ⟨b,off+k * 5,none⟩=some (.int .i64 l[k].id)∧w.cell? ⟨b,off+k * 5+1,none⟩=some (.int .i64 l[k].asn)∧w.cell? ⟨b,off+k * 5+2,none⟩=some (.int .i64 l[k].iface)∧w.cell? ⟨b,off+k * 5+3,none⟩=some (.int .i64 l[k].rate)∧w.cell? ⟨b,off+k * 5+4,none⟩=some (.int .i64 l[k].till):=by
 obtain⟨b,off,ho,hc⟩:=RdS.at_flat h k hk;exact⟨b,off,ho,by simpa using hc 0 _ rfl,by simpa using hc 1 _ rfl,by simpa using hc 2 _ rfl,by simpa using hc 3 _ rfl,by simpa using hc 4 _ rfl⟩
theorem Resv.at_ext {w w':World} {b off k:Nat} {l:List Resv} {hk:k<l.length} (x:Ext w w') (h:w.cell? ⟨b,off+k * 5,none⟩=some (.int .i64 l[k].id)∧w.cell? ⟨b,off+k * 5+1,none⟩=some (.int .i64 l[k].asn)∧w.cell? ⟨b,off+k * 5+2,none⟩=some (.int .i64 l[k].iface)∧w.cell? ⟨b,off+k * 5+3,none⟩=some (.int .i64 l[k].rate)∧w.cell? ⟨b,off+k * 5+4,none⟩=some (.int .i64 l[k].till)) :
  w'.cell? ⟨b,off+k * 5,none⟩=some (.int .i64 l[k].id)∧w'.cell? ⟨b,off+k * 5+1,none⟩=some (.int .i64 l[k].asn)∧w'.cell? ⟨b,off+k * 5+2,none⟩=some (.int .i64 l[k].iface)∧w'.cell? ⟨b,off+k * 5+3,none⟩=some (.int .i64 l[k].rate)∧w'.cell? ⟨b,off+k * 5+4,none⟩=some (.int .i64 l[k].till):=by
 obtain⟨h0,h1,h2,h3,h4⟩:=h;exact⟨x.cell h0,x.cell h1,x.cell h2,x.cell h3,x.cell h4⟩
theorem Resv.own_at {base:Nat} {e:TypeId} {w:World} {g m cap:Nat} {l:List Resv} (h:OwnF Resv.f 5 base e w (.slice (some ⟨g,0,none⟩) m cap) l) (k:Nat) (hk:k<l.length) :
  w.cell? ⟨g,k * 5,none⟩=some (.int .i64 l[k].id)∧w.cell? ⟨g,k * 5+1,none⟩=some (.int .i64 l[k].asn)∧w.cell? ⟨g,k * 5+2,none⟩=some (.int .i64 l[k].iface)∧w.cell? ⟨g,k * 5+3,none⟩=some (.int .i64 l[k].rate)∧w.cell? ⟨g,k * 5+4,none⟩=some (.int .i64 l[k].till):=by
 have hc:=OwnF.cells_flat Resv.flen h k hk;exact⟨by simpa using hc 0 _ rfl,by simpa using hc 1 _ rfl,by simpa using hc 2 _ rfl,by simpa using hc 3 _ rfl,by simpa using hc 4 _ rfl⟩
theorem Resv.sets {l:List Resv} {k:Nat} (hk:k<l.length) (x:Resv):((((((l.flatMap Resv.f).set (k * 5) (.int .i64 x.id)).set (k * 5+1) (.int .i64 x.asn)).set (k * 5+2) (.int .i64 x.iface)).set (k * 5+3) (.int .i64 x.rate)).set (k * 5+4) (.int .i64 x.till))=(l.set k x).flatMap Resv.f:=by
 induction l generalizing k with
 | nil => simp at hk
 | cons a l ih =>
  cases k with
  | zero => rfl
  | succ k =>
   have:=ih (k:=k) (by simpa using hk);simp only [List.flatMap_cons,List.set_cons_succ,← this,Resv.f];rw [show(k+1) * 5=k * 5+1+1+1+1+1 from by omega];rfl
theorem Resv.own_set {base:Nat} {e:TypeId} {w:World} {g m cap:Nat} {l:List Resv} (h:OwnF Resv.f 5 base e w (.slice (some ⟨g,0,none⟩) m cap) l) (k:Nat) (hk:k<l.length) (x:Resv) :
  OwnF Resv.f 5 base e (((((w.setCell ⟨g,k * 5,none⟩ (.int .i64 x.id)).setCell ⟨g,k * 5+1,none⟩ (.int .i64 x.asn)).setCell ⟨g,k * 5+2,none⟩ (.int .i64 x.iface)).setCell ⟨g,k * 5+3,none⟩ (.int .i64 x.rate)).setCell ⟨g,k * 5+4,none⟩ (.int .i64 x.till)) (.slice (some ⟨g,0,none⟩) m cap) (l.set k x) ∧
   w.grownBy (((((w.setCell ⟨g,k * 5,none⟩ (.int .i64 x.id)).setCell ⟨g,k * 5+1,none⟩ (.int .i64 x.asn)).setCell ⟨g,k * 5+2,none⟩ (.int .i64 x.iface)).setCell ⟨g,k * 5+3,none⟩ (.int .i64 x.rate)).setCell ⟨g,k * 5+4,none⟩ (.int .i64 x.till)) (some g):=by
 obtain rfl:=h.len;obtain⟨h0,g0⟩:=World.ownsRow.stored h (k * 5) (.int .i64 x.id);obtain⟨h1,g1⟩:=World.ownsRow.stored h0 (k * 5+1) (.int .i64 x.asn);obtain⟨h2,g2⟩:=World.ownsRow.stored h1 (k * 5+2) (.int .i64 x.iface);obtain⟨h3,g3⟩:=World.ownsRow.stored h2 (k * 5+3) (.int .i64 x.rate);obtain⟨h4,g4⟩:=World.ownsRow.stored h3 (k * 5+4) (.int .i64 x.till);rw [Resv.sets hk] at h4;refine⟨?_,((((g0.trans g1).trans g2).trans g3).trans g4)⟩;unfold OwnF;rw [List.length_set];exact h4
theorem Resv.ext' {x y:Resv} (h0:x.id=y.id) (h1:x.asn=y.asn) (h2:x.iface=y.iface) (h3:x.rate=y.rate) (h4:x.till=y.till):x=y:=by
 cases x;cases y;simp_all
def Resv.mk' (k:Int):Resv:=⟨k,k+1,k+1+1,k+1+1+1,k+1+1+1+1⟩
def Resv.ok (x:Resv):Prop:=I64 x.id∧I64 x.asn∧I64 x.iface∧I64 x.rate∧I64 x.till
structure ASd where
  isd:Int
  core:Bool
  key:Int
  deriving DecidableEq
def ASd.f (x:ASd):List Value:=[.int .i64 x.isd,.bool x.core,.int .i64 x.key]
theorem ASd.flen (x:ASd):x.f.length=3:=rfl
def ASd.rep:Rep ASd:=Rep.flat 3 ASd.f ASd.flen
theorem ASd.one (x:ASd):∀ u∈x.f,u.oneCell'=true:=by
 intro u hu;simp only [ASd.f,List.mem_cons,List.not_mem_nil,or_false] at hu
 rcases hu with rfl | rfl | rfl <;> rfl
theorem ASd.at {w:World} {o:Option Addr} {m cap:Nat} {l:List ASd} (h:RdS ASd.rep w (.slice o m cap) l) (k:Nat) (hk:k<l.length) :
  ∃ b off,o=some ⟨b,off,none⟩∧w.cell? ⟨b,off+k * 3,none⟩=some (.int .i64 l[k].isd)∧w.cell? ⟨b,off+k * 3+1,none⟩=some (.bool l[k].core)∧w.cell? ⟨b,off+k * 3+2,none⟩=some (.int .i64 l[k].key):=by
 obtain⟨b,off,ho,hc⟩:=RdS.at_flat h k hk;exact⟨b,off,ho,by simpa using hc 0 _ rfl,by simpa using hc 1 _ rfl,by simpa using hc 2 _ rfl⟩
theorem ASd.at_ext {w w':World} {b off k:Nat} {l:List ASd} {hk:k<l.length} (x:Ext w w') (h:w.cell? ⟨b,off+k * 3,none⟩=some (.int .i64 l[k].isd)∧w.cell? ⟨b,off+k * 3+1,none⟩=some (.bool l[k].core)∧w.cell? ⟨b,off+k * 3+2,none⟩=some (.int .i64 l[k].key)) :
  w'.cell? ⟨b,off+k * 3,none⟩=some (.int .i64 l[k].isd)∧w'.cell? ⟨b,off+k * 3+1,none⟩=some (.bool l[k].core)∧w'.cell? ⟨b,off+k * 3+2,none⟩=some (.int .i64 l[k].key):=by
 obtain⟨h0,h1,h2⟩:=h;exact⟨x.cell h0,x.cell h1,x.cell h2⟩
theorem ASd.own_at {base:Nat} {e:TypeId} {w:World} {g m cap:Nat} {l:List ASd} (h:OwnF ASd.f 3 base e w (.slice (some ⟨g,0,none⟩) m cap) l) (k:Nat) (hk:k<l.length) :
  w.cell? ⟨g,k * 3,none⟩=some (.int .i64 l[k].isd)∧w.cell? ⟨g,k * 3+1,none⟩=some (.bool l[k].core)∧w.cell? ⟨g,k * 3+2,none⟩=some (.int .i64 l[k].key):=by
 have hc:=OwnF.cells_flat ASd.flen h k hk;exact⟨by simpa using hc 0 _ rfl,by simpa using hc 1 _ rfl,by simpa using hc 2 _ rfl⟩
theorem Tryz.infoASd:(Tryz.prog.info? 129).map (fun i=>(i.zero,i.size,i.bytes))=some (some (.agg #[.int .i64 0,.bool false,.int .i64 0]),3,24):=by kernel_rfl
theorem ASd.sets {l:List ASd} {k:Nat} (hk:k<l.length) (x:ASd):((((l.flatMap ASd.f).set (k * 3) (.int .i64 x.isd)).set (k * 3+1) (.bool x.core)).set (k * 3+2) (.int .i64 x.key))=(l.set k x).flatMap ASd.f:=by
 induction l generalizing k with
 | nil => simp at hk
 | cons a l ih =>
  cases k with
  | zero => rfl
  | succ k =>
   have:=ih (k:=k) (by simpa using hk);simp only [List.flatMap_cons,List.set_cons_succ,← this,ASd.f];rw [show(k+1) * 3=k * 3+1+1+1 from by omega];rfl
theorem ASd.own_set {base:Nat} {e:TypeId} {w:World} {g m cap:Nat} {l:List ASd} (h:OwnF ASd.f 3 base e w (.slice (some ⟨g,0,none⟩) m cap) l) (k:Nat) (hk:k<l.length) (x:ASd) :
  OwnF ASd.f 3 base e (((w.setCell ⟨g,k * 3,none⟩ (.int .i64 x.isd)).setCell ⟨g,k * 3+1,none⟩ (.bool x.core)).setCell ⟨g,k * 3+2,none⟩ (.int .i64 x.key)) (.slice (some ⟨g,0,none⟩) m cap) (l.set k x) ∧
   w.grownBy (((w.setCell ⟨g,k * 3,none⟩ (.int .i64 x.isd)).setCell ⟨g,k * 3+1,none⟩ (.bool x.core)).setCell ⟨g,k * 3+2,none⟩ (.int .i64 x.key)) (some g):=by
 obtain rfl:=h.len;obtain⟨h0,g0⟩:=World.ownsRow.stored h (k * 3) (.int .i64 x.isd);obtain⟨h1,g1⟩:=World.ownsRow.stored h0 (k * 3+1) (.bool x.core);obtain⟨h2,g2⟩:=World.ownsRow.stored h1 (k * 3+2) (.int .i64 x.key);rw [ASd.sets hk] at h2;refine⟨?_,((g0.trans g1).trans g2)⟩;unfold OwnF;rw [List.length_set];exact h2
theorem ASd.ext' {x y:ASd} (h0:x.isd=y.isd) (h1:x.core=y.core) (h2:x.key=y.key):x=y:=by
 cases x;cases y;simp_all
def ASd.ok (x:ASd):Prop:=I64 x.isd∧I64 x.key
structure Lnk where
  a:Int
  ai:Int
  b:Int
  bi:Int
  kind:Int
  deriving DecidableEq
def Lnk.f (x:Lnk):List Value:=[.int .i64 x.a,.int .i64 x.ai,.int .i64 x.b,.int .i64 x.bi,.int .i64 x.kind]
theorem Lnk.flen (x:Lnk):x.f.length=5:=rfl
def Lnk.rep:Rep Lnk:=Rep.flat 5 Lnk.f Lnk.flen
theorem Lnk.one (x:Lnk):∀ u∈x.f,u.oneCell'=true:=by
 intro u hu;simp only [Lnk.f,List.mem_cons,List.not_mem_nil,or_false] at hu
 rcases hu with rfl | rfl | rfl | rfl | rfl <;> rfl
theorem Lnk.at {w:World} {o:Option Addr} {m cap:Nat} {l:List Lnk} (h:RdS Lnk.rep w (.slice o m cap) l) (k:Nat) (hk:k<l.length) :
  ∃ b off,o=some ⟨b,off,none⟩∧w.cell? ⟨b,off+k * 5,none⟩=some (.int .i64 l[k].a)∧w.cell? ⟨b,off+k * 5+1,none⟩=some (.int .i64 l[k].ai)∧w.cell? ⟨b,off+k * 5+2,none⟩=some (.int .i64 l[k].b)∧w.cell? ⟨b,off+k * 5+3,none⟩=some (.int .i64 l[k].bi)∧w.cell? ⟨b,off+k * 5+4,none⟩=some (.int .i64 l[k].kind):=by
 obtain⟨b,off,ho,hc⟩:=RdS.at_flat h k hk;exact⟨b,off,ho,by simpa using hc 0 _ rfl,by simpa using hc 1 _ rfl,by simpa using hc 2 _ rfl,by simpa using hc 3 _ rfl,by simpa using hc 4 _ rfl⟩
theorem Lnk.at_ext {w w':World} {b off k:Nat} {l:List Lnk} {hk:k<l.length} (x:Ext w w') (h:w.cell? ⟨b,off+k * 5,none⟩=some (.int .i64 l[k].a)∧w.cell? ⟨b,off+k * 5+1,none⟩=some (.int .i64 l[k].ai)∧w.cell? ⟨b,off+k * 5+2,none⟩=some (.int .i64 l[k].b)∧w.cell? ⟨b,off+k * 5+3,none⟩=some (.int .i64 l[k].bi)∧w.cell? ⟨b,off+k * 5+4,none⟩=some (.int .i64 l[k].kind)) :
  w'.cell? ⟨b,off+k * 5,none⟩=some (.int .i64 l[k].a)∧w'.cell? ⟨b,off+k * 5+1,none⟩=some (.int .i64 l[k].ai)∧w'.cell? ⟨b,off+k * 5+2,none⟩=some (.int .i64 l[k].b)∧w'.cell? ⟨b,off+k * 5+3,none⟩=some (.int .i64 l[k].bi)∧w'.cell? ⟨b,off+k * 5+4,none⟩=some (.int .i64 l[k].kind):=by
 obtain⟨h0,h1,h2,h3,h4⟩:=h;exact⟨x.cell h0,x.cell h1,x.cell h2,x.cell h3,x.cell h4⟩
theorem Lnk.own_at {base:Nat} {e:TypeId} {w:World} {g m cap:Nat} {l:List Lnk} (h:OwnF Lnk.f 5 base e w (.slice (some ⟨g,0,none⟩) m cap) l) (k:Nat) (hk:k<l.length) :
  w.cell? ⟨g,k * 5,none⟩=some (.int .i64 l[k].a)∧w.cell? ⟨g,k * 5+1,none⟩=some (.int .i64 l[k].ai)∧w.cell? ⟨g,k * 5+2,none⟩=some (.int .i64 l[k].b)∧w.cell? ⟨g,k * 5+3,none⟩=some (.int .i64 l[k].bi)∧w.cell? ⟨g,k * 5+4,none⟩=some (.int .i64 l[k].kind):=by
 have hc:=OwnF.cells_flat Lnk.flen h k hk;exact⟨by simpa using hc 0 _ rfl,by simpa using hc 1 _ rfl,by simpa using hc 2 _ rfl,by simpa using hc 3 _ rfl,by simpa using hc 4 _ rfl⟩
theorem Tryz.infoLnk:(Tryz.prog.info? 127).map (fun i=>(i.zero,i.size,i.bytes))=some (some (.agg #[.int .i64 0,.int .i64 0,.int .i64 0,.int .i64 0,.int .i64 0]),5,40):=by kernel_rfl
theorem Lnk.sets {l:List Lnk} {k:Nat} (hk:k<l.length) (x:Lnk):((((((l.flatMap Lnk.f).set (k * 5) (.int .i64 x.a)).set (k * 5+1) (.int .i64 x.ai)).set (k * 5+2) (.int .i64 x.b)).set (k * 5+3) (.int .i64 x.bi)).set (k * 5+4) (.int .i64 x.kind))=(l.set k x).flatMap Lnk.f:=by
 induction l generalizing k with
 | nil => simp at hk
 | cons a l ih =>
  cases k with
  | zero => rfl
  | succ k =>
   have:=ih (k:=k) (by simpa using hk);simp only [List.flatMap_cons,List.set_cons_succ,← this,Lnk.f];rw [show(k+1) * 5=k * 5+1+1+1+1+1 from by omega];rfl
theorem Lnk.own_set {base:Nat} {e:TypeId} {w:World} {g m cap:Nat} {l:List Lnk} (h:OwnF Lnk.f 5 base e w (.slice (some ⟨g,0,none⟩) m cap) l) (k:Nat) (hk:k<l.length) (x:Lnk) :
  OwnF Lnk.f 5 base e (((((w.setCell ⟨g,k * 5,none⟩ (.int .i64 x.a)).setCell ⟨g,k * 5+1,none⟩ (.int .i64 x.ai)).setCell ⟨g,k * 5+2,none⟩ (.int .i64 x.b)).setCell ⟨g,k * 5+3,none⟩ (.int .i64 x.bi)).setCell ⟨g,k * 5+4,none⟩ (.int .i64 x.kind)) (.slice (some ⟨g,0,none⟩) m cap) (l.set k x) ∧
   w.grownBy (((((w.setCell ⟨g,k * 5,none⟩ (.int .i64 x.a)).setCell ⟨g,k * 5+1,none⟩ (.int .i64 x.ai)).setCell ⟨g,k * 5+2,none⟩ (.int .i64 x.b)).setCell ⟨g,k * 5+3,none⟩ (.int .i64 x.bi)).setCell ⟨g,k * 5+4,none⟩ (.int .i64 x.kind)) (some g):=by
 obtain rfl:=h.len;obtain⟨h0,g0⟩:=World.ownsRow.stored h (k * 5) (.int .i64 x.a);obtain⟨h1,g1⟩:=World.ownsRow.stored h0 (k * 5+1) (.int .i64 x.ai);obtain⟨h2,g2⟩:=World.ownsRow.stored h1 (k * 5+2) (.int .i64 x.b);obtain⟨h3,g3⟩:=World.ownsRow.stored h2 (k * 5+3) (.int .i64 x.bi);obtain⟨h4,g4⟩:=World.ownsRow.stored h3 (k * 5+4) (.int .i64 x.kind);rw [Lnk.sets hk] at h4;refine⟨?_,((((g0.trans g1).trans g2).trans g3).trans g4)⟩;unfold OwnF;rw [List.length_set];exact h4
theorem Lnk.ext' {x y:Lnk} (h0:x.a=y.a) (h1:x.ai=y.ai) (h2:x.b=y.b) (h3:x.bi=y.bi) (h4:x.kind=y.kind):x=y:=by
 cases x;cases y;simp_all
def Lnk.mk' (k:Int):Lnk:=⟨k,k+1,k+1+1,k+1+1+1,k+1+1+1+1⟩
def Lnk.ok (x:Lnk):Prop:=I64 x.a∧I64 x.ai∧I64 x.b∧I64 x.bi∧I64 x.kind
structure Topo where
  ases:List ASd
  links:List Lnk
  deriving DecidableEq
def Topo.size (x:Topo):Nat:=x.ases.length+x.links.length
def Topo.rep:Rep Topo where
  cells:=2
  rd w cs x:=∃ v1 v2,cs=[v1,v2]∧RdS ASd.rep w v1 x.ases∧RdS Lnk.rep w v2 x.links
  len:=by rintro w cs a ⟨v1,v2,rfl,_⟩;rfl
  ext:=by rintro w w' cs a e ⟨v1,v2,rfl,h1,h2⟩;exact⟨v1,v2,rfl,h1.ext e,h2.ext e⟩
def Topo.ok (x:Topo):Prop:=(∀ y∈x.ases,ASd.ok y)∧∀ y∈x.links,Lnk.ok y
def isRes (n:Int):Bool:=inR n 0 2147483646
def addMod (b s:Int):Int:=if isRes b && isRes s then (b+s) % 2147483647 else 0
def subMod (b s:Int):Int:=if isRes b && isRes s then (b - s+2147483647) % 2147483647 else 0
theorem isRes_true {n:Int}:isRes n=true↔0≤n∧n≤2147483646:=inR_true
theorem addMod_no1 {b s:Int} (h:isRes b=false):addMod b s=0:=by simp [addMod,h]
theorem addMod_no2 {b s:Int} (h:isRes s=false):addMod b s=0:=by simp [addMod,h]
theorem addMod_yes {b s:Int} (h:isRes b=true) (h2:isRes s=true):addMod b s=(b+s) % 2147483647:=by simp [addMod,h,h2]
theorem subMod_no1 {b s:Int} (h:isRes b=false):subMod b s=0:=by simp [subMod,h]
theorem subMod_no2 {b s:Int} (h:isRes s=false):subMod b s=0:=by simp [subMod,h]
theorem subMod_yes {b s:Int} (h:isRes b=true) (h2:isRes s=true):subMod b s=(b - s+2147483647) % 2147483647:=by simp [subMod,h,h2]
theorem addMod_res (b s:Int):isRes (addMod b s)=true:=by
 rw [isRes_true];unfold addMod;split <;> omega
theorem i_isResidue (n:Int) (w:World):Calls Tryz.prog 177 #[.int .i64 n] w fun e w'=>e=.returned (.bool (isRes n))∧w=w':=by
 go_enter Tryz.func177,Tryz.ntmps177
 go_wp2_with fail
 refine(i_InRange _ _ _ _).mono ?_;rintro e w1 ⟨rfl,rfl⟩
 go_wp2_with fail
 go_ret
 exact⟨rfl,rfl⟩
theorem i_AddMod (b s:Int) (w:World):Calls Tryz.prog 191 #[.int .i64 b,.int .i64 s] w fun e w'=>e=.returned (.int .i64 (addMod b s))∧w=w':=by
 go_enter Tryz.func191,Tryz.ntmps191
 go_wp2_with fail
 refine(i_isResidue _ _).mono ?_;rintro e w1 ⟨rfl,rfl⟩
 cases h1:isRes b
 ·
  have HE:=Ac (addMod_no1 (s:=s) h1)
  go_wp2_with fail
  go_ret
  exact⟨ret_int HE.out.symm,rfl⟩
 go_wp2_with fail
 refine(i_isResidue _ _).mono ?_;rintro e w1 ⟨rfl,rfl⟩
 cases h2:isRes s
 ·
  have HE:=Ac (addMod_no2 (b:=b) h2)
  go_wp2_with fail
  go_ret
  exact⟨ret_int HE.out.symm,rfl⟩
 have HE:=Ac (addMod_yes h1 h2);obtain⟨a1,a2⟩:=isRes_true.1 h1;obtain⟨a3,a4⟩:=isRes_true.1 h2
 go_wp2_with fail
 go_ret
 exact⟨ret_int HE.out.symm,rfl⟩
theorem i_SubMod (b s:Int) (w:World):Calls Tryz.prog 190 #[.int .i64 b,.int .i64 s] w fun e w'=>e=.returned (.int .i64 (subMod b s))∧w=w':=by
 go_enter Tryz.func190,Tryz.ntmps190
 go_wp2_with fail
 refine(i_isResidue _ _).mono ?_;rintro e w1 ⟨rfl,rfl⟩
 cases h1:isRes b
 ·
  have HE:=Ac (subMod_no1 (s:=s) h1)
  go_wp2_with fail
  go_ret
  exact⟨ret_int HE.out.symm,rfl⟩
 go_wp2_with fail
 refine(i_isResidue _ _).mono ?_;rintro e w1 ⟨rfl,rfl⟩
 cases h2:isRes s
 ·
  have HE:=Ac (subMod_no2 (b:=b) h2)
  go_wp2_with fail
  go_ret
  exact⟨ret_int HE.out.symm,rfl⟩
 have HE:=Ac (subMod_yes h1 h2);obtain⟨a1,a2⟩:=isRes_true.1 h1;obtain⟨a3,a4⟩:=isRes_true.1 h2
 go_wp2_with fail
 go_ret
 exact⟨ret_int HE.out.symm,rfl⟩
theorem s_l3Ok (n:Int) (w:World):Calls Tryz.prog 149 #[.int .i64 n] w fun e w'=>e=.returned (.bool (isRes n))∧w=w':=by
 go_enter Tryz.func149,Tryz.ntmps149
 go_wp2_with fail
 refine(s_l1In _ _ _ _).mono ?_;rintro e w1 ⟨rfl,rfl⟩
 go_wp2_with fail
 go_ret
 exact⟨rfl,rfl⟩
theorem s_AddMod (b s:Int) (w:World):Calls Tryz.prog 187 #[.int .i64 b,.int .i64 s] w fun e w'=>e=.returned (.int .i64 (addMod b s))∧w=w':=by
 go_enter Tryz.func187,Tryz.ntmps187
 go_wp2_with fail
 refine(s_l3Ok _ _).mono ?_;rintro e w1 ⟨rfl,rfl⟩
 cases h1:isRes b
 ·
  have HE:=Ac (addMod_no1 (s:=s) h1)
  go_wp2_with fail
  go_ret
  exact⟨ret_int HE.out.symm,rfl⟩
 go_wp2_with fail
 refine(s_l3Ok _ _).mono ?_;rintro e w1 ⟨rfl,rfl⟩
 cases h2:isRes s
 ·
  have HE:=Ac (addMod_no2 (b:=b) h2)
  go_wp2_with fail
  go_ret
  exact⟨ret_int HE.out.symm,rfl⟩
 have HE:=Ac (addMod_yes h1 h2);obtain⟨a1,a2⟩:=isRes_true.1 h1;obtain⟨a3,a4⟩:=isRes_true.1 h2
 go_wp2_with fail
 go_ret
 exact⟨ret_int HE.out.symm,rfl⟩
theorem s_SubMod (b s:Int) (w:World):Calls Tryz.prog 185 #[.int .i64 b,.int .i64 s] w fun e w'=>e=.returned (.int .i64 (subMod b s))∧w=w':=by
 go_enter Tryz.func185,Tryz.ntmps185
 go_wp2_with fail
 refine(s_l3Ok _ _).mono ?_;rintro e w1 ⟨rfl,rfl⟩
 cases h1:isRes b
 ·
  have HE:=Ac (subMod_no1 (s:=s) h1)
  go_wp2_with fail
  go_ret
  exact⟨ret_int HE.out.symm,rfl⟩
 go_wp2_with fail
 refine(s_l3Ok _ _).mono ?_;rintro e w1 ⟨rfl,rfl⟩
 cases h2:isRes s
 ·
  have HE:=Ac (subMod_no2 (b:=b) h2)
  go_wp2_with fail
  go_ret
  exact⟨ret_int HE.out.symm,rfl⟩
 have HE:=Ac (subMod_yes h1 h2);obtain⟨a1,a2⟩:=isRes_true.1 h1;obtain⟨a3,a4⟩:=isRes_true.1 h2
 go_wp2_with fail
 go_ret
 exact⟨ret_int HE.out.symm,rfl⟩
theorem elemStep:Nonempty (Elem Tryz.prog 38 79 3 24):=Elem.mk' Tryz.underlying38 Tryz.infoStep rfl (by decide)
def betaTo (x:Part):Nat→Int
 | 0 => x.beta
 | k + 1 => match x.hops[k]? with
  | some h => if isRev x.kind then subMod (betaTo x k) h.mac else addMod (betaTo x k) h.mac
  | none => betaTo x k
theorem betaTo_succ {x:Part} {k:Nat} (h:k<x.hops.length):betaTo x (k+1)=if isRev x.kind then subMod (betaTo x k) x.hops[k].mac else addMod (betaTo x k) x.hops[k].mac:=by simp [betaTo,h]
def betaAfter (x:Part) (i:Int):Int:=if 0≤i∧i≤x.hops.length then betaTo x i.toNat else 0
theorem elemHop:Nonempty (Elem Tryz.prog 97 103 5 40):=Elem.mk' Tryz.underlying97 Tryz.infoHop rfl (by decide)
theorem rev_drop {α:Type} {l:List α} {k:Nat} (hk:k<l.length):(l.drop (k+1)).reverse ++ [l[k]]=(l.drop k).reverse:=by
 rw [List.drop_eq_getElem_cons hk,List.reverse_cons]
theorem RdS.upto {α:Type} {r:Rep α} {w:World} {o:Option Addr} {m cap:Nat} {l:List α} (h:RdS r w (.slice o m cap) l) (k:Nat) (hk:k≤l.length):RdS r w (.slice o k cap) (l.take k):=by
 obtain⟨o',cap',hv,h1,h2,hn,h3⟩:=h
 cases hv
 have hl:(l.take k).length=k:=by simp;omega
 refine⟨o,cap,by rw [hl],by omega,h2,hn,fun i hi=>?_⟩;obtain⟨b,off,cs,a1,a2,a3⟩:=h3 i (by omega);exact⟨b,off,cs,a1,a2,by simpa using a3⟩
theorem i_BetaAfter (x:Part) (v:Value) (i:Int) (w:World) (r:RdS Hop.rep w v x.hops) :
  Calls Tryz.prog 160 #[.agg #[.int .i64 x.kind,.int .i64 x.ts,.int .i64 x.beta,v],.int .i64 i] w fun e w'=>e=.returned (.int .i64 (betaAfter x i))∧Ext w w':=by
 obtain⟨o,cap,rfl,hsm⟩:=r.shape;have hcap:=r.capLe;obtain⟨hx0,hB⟩:=ea1 w (.cells #[.int .i64 x.kind,.int .i64 x.ts,.int .i64 x.beta,.slice o x.hops.length cap] 99);have HB:=Ac hB;clear hB
 go_enter Tryz.func160,Tryz.ntmps160
 go_wp2_with fail
 refine(i_InRange _ _ _ _).mono ?_;rintro e w1 ⟨rfl,rfl⟩
 cases hin:inR i 0 x.hops.length
 ·
  have he:betaAfter x i=0:=by unfold betaAfter;rw [if_neg (inR_false.1 hin)]
  have HE:=Ac he;clear he
  go_wp2_with fail
  go_ret
  exact⟨ret_int HE.out.symm,hx0⟩
 obtain⟨h1,h2⟩:=inR_true.1 hin;obtain⟨k,rfl⟩:=Int.eq_ofNat_of_zero_le h1;have he:betaAfter x k=betaTo x k:=by unfold betaAfter;rw [if_pos ⟨h1,h2⟩,Int.toNat_natCast]
 have HE:=Ac he;clear he;have hkl:k≤x.hops.length:=by omega
 have HIN:=Ac hin;clear hin;have q1:(k:Int)≤cap:=by omega
 go_wp2
 go_loopg [5,21] k (fun gk t i wr=>∃ j:Nat,gk+j=k∧i=.int .i64 j∧t=.int .i64 (betaTo x j)∧Hid (wr.heap[w.heap.size]?=some (.cells #[.int .i64 x.kind,.int .i64 x.ts,.int .i64 x.beta,.slice o x.hops.length cap] 99))∧Ext w wr)
 case atStart=>exact⟨0,rfl,rfl,rfl,HB,hx0⟩
 case round=>
  obtain⟨j,hgk,rfl,rfl,HBj,hx⟩:=hrel;have hcb:=blk4 HBj.out
  by_cases hjk:j<k
  ·
   have hj:j<x.hops.length:=by omega
   have HBj2:=Ac (Aa ((Ab wr).alloc (.cells #[.int .i64 x.hops[j].asn,.int .i64 x.hops[j].ing,.int .i64 x.hops[j].eg,.int .i64 x.hops[j].exp,.int .i64 x.hops[j].mac] 103)) HBj.out);have hcb2:=blk4 HBj2.out;obtain⟨b,off,rfl,hc⟩:=Hop.at (r.ext hx) j hj;have hst:=betaTo_succ hj;have HST:=Ac hst;clear hst;have hg':gk - 1+(j+1)=k∧gk - 1<gk:=by omega
   have HG:=Ac hg';clear hg' hgk;generalize betaTo x j=t0 at *
   go_wp2_with fail
   refine(i_IsReversed _ _).mono ?_;rintro e w1 ⟨rfl,rfl⟩
   cases hrv:isRev x.kind
   ·
    rw [hrv] at HST;have HS2:=Ac (HST.out.trans rfl:_=addMod t0 x.hops[j].mac)
    go_wp2_with fail
    refine(i_AddMod _ _ _).mono ?_;rintro e w1 ⟨rfl,rfl⟩
    go_wp2_with fail
    go_roundg (gk - 1)
    case measure=>exact HG.out.2
    case rel=>exact⟨j+1,HG.out.1,by go_num,by rw [HS2.out],HBj2,hx.alloc _⟩
   rw [hrv] at HST;have HS2:=Ac (HST.out.trans rfl:_=subMod t0 x.hops[j].mac)
   go_wp2_with fail
   refine(i_SubMod _ _ _).mono ?_;rintro e w1 ⟨rfl,rfl⟩
   go_wp2_with fail
   go_roundg (gk - 1)
   case measure=>exact HG.out.2
   case rel=>exact⟨j+1,HG.out.1,by go_num,by rw [HS2.out],HBj2,hx.alloc _⟩
  obtain rfl:j=k:=by omega
  go_wp2
  go_ret
  exact⟨ret_int HE.out.symm,hx⟩
end
abbrev Ag := @Part.at_ext
abbrev Ao := @Hop.flen
abbrev Av := @Hop.at_ext
abbrev Bk := @inR_true
abbrev Bs := @Part.ord
abbrev Bu := @Step.flen
abbrev Bx := @Part.at
abbrev Ca := @Hop.at
end Go.Proofs.YteodlcpeoaggbaaGreat
