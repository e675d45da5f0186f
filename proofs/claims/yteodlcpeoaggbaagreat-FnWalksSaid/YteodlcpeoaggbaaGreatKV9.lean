/- What these laws need: FnOld, FnWalks: Contracts of links, interfaces and failed interfaces of a topology, program and reference. What is checked of hop fields, parts, paths and packets, and how a packet goes on, as plain functions. Links laid one by one, each at the next number of either end: no two of them share an end. Chains of residues and the digest, as plain functions: a chain is undone from its end; a digest tells two rows apart that differ at one place. Segments as they are drawn: grown hop by hop along the links of a right topology, each hop sealed: all of them verify. -/
import Derived.Test.YteodlcpeoaggbaaGreatKV6
import Derived.Test.YteodlcpeoaggbaaGreatKV8
namespace Go.Proofs.YteodlcpeoaggbaaGreat
section
open Go.ChangeShapes Go.WideShapes Go.ChangeAt Go.RowKit Go.Deep
set_option maxRecDepth 100000
set_option maxHeartbeats 4000000
def usesIf (x:Lnk) (r d:Int):Bool:=(x.a == r && x.ai == d) || (x.b == r && x.bi == d)
def linkFrom (r d:Int):Nat→List Lnk→Int
 | _, [] => -1
 | k, x :: l => if usesIf x r d then k else linkFrom r d (k + 1) l
def linkIdx (l:List Lnk) (r d:Int):Int:=linkFrom r d 0 l
theorem linkFrom_no {r d:Int} {l:List Lnk} {k:Nat} (hk:k<l.length) (h:usesIf l[k] r d=false):linkFrom r d k (l.drop k)=linkFrom r d (k+1) (l.drop (k+1)):=by
 rw [List.drop_eq_getElem_cons hk]
 show(if _ then _ else _)=_
 rw [h];simp
theorem linkFrom_yes {r d:Int} {l:List Lnk} {k:Nat} (hk:k<l.length) (h:usesIf l[k] r d=true):linkFrom r d k (l.drop k)=k:=by
 rw [List.drop_eq_getElem_cons hk]
 show(if _ then _ else _)=_
 rw [h];simp
def ifStep (r:Int) (out:List Int) (x:Lnk):List Int:=if x.b == r then insInt x.bi (if x.a == r then insInt x.ai out else out) else (if x.a == r then insInt x.ai out else out)
def topoIfs (l:List Lnk) (r:Int):List Int:=l.foldl (ifStep r) []
theorem foldl_snoc {α β:Type} (f:β→α→β) (z:β) {l:List α} {k:Nat} (hk:k<l.length):(l.take (k+1)).foldl f z=f ((l.take k).foldl f z) l[k]:=by
 rw [List.take_succ_eq_append_getElem hk,List.foldl_append];rfl
theorem ifStep_len (r:Int) (out:List Int) (x:Lnk):(ifStep r out x).length≤out.length+2:=by
 unfold ifStep;have h1:=insInt_len x.ai out;have h2:=insInt_len x.bi out;have h3:=insInt_len x.bi (insInt x.ai out)
 split <;> split <;> omega
theorem topoIfs_len (l:List Lnk) (r:Int):(topoIfs l r).length≤2 * l.length:=by
 have:∀ (l:List Lnk) (z:List Int),(l.foldl (ifStep r) z).length≤z.length+2 * l.length:=by
  intro l
  induction l with
  | nil => intro z; simp
  | cons x l ih => intro z; have := ih (ifStep r z x); have := ifStep_len r z x; simp only [List.foldl_cons, List.length_cons]; omega
 simpa [topoIfs] using this l []
def orI (a b:Int):Int:=IntKind.wrap .i64 ((BitVec.ofInt 64 a ||| BitVec.ofInt 64 b).toNat:Int)
def addEl (s i:Int):Int:=if inR s 0 65535 && inR i 0 15 then orI s (2 ^ i.toNat) else s
theorem addEl_no1 {s i:Int} (h:inR s 0 65535=false):addEl s i=s:=by simp [addEl,h]
theorem addEl_no2 {s i:Int} (h:inR i 0 15=false):addEl s i=s:=by simp [addEl,h]
theorem addEl_yes {s i:Int} (h:inR s 0 65535=true) (h2:inR i 0 15=true):addEl s i=orI s (2 ^ i.toNat):=by simp [addEl,h,h2]
def failStep (t:Topo) (dead:List Int) (r:Int) (s x:Int):Int:=if hasI dead (linkIdx t.links r x) then addEl s x else s
def failedIfs (t:Topo) (dead:List Int) (r:Int):Int:=(topoIfs t.links r).foldl (failStep t dead r) 0
theorem i_usesInterface (x:Lnk) (r d:Int) (w:World) :
  Calls Tryz.prog 108 #[.agg #[.int .i64 x.a,.int .i64 x.ai,.int .i64 x.b,.int .i64 x.bi,.int .i64 x.kind],.int .i64 r,.int .i64 d] w fun e w'=>e=.returned (.bool (usesIf x r d))∧Ext w w':=by
 go_enter Tryz.func108,Tryz.ntmps108
 cases h1:(x.a == r) <;> cases h2:(x.ai == d) <;> cases h3:(x.b == r) <;> cases h4:(x.bi == d)
 all_goals
  go_wp2
  go_ret
  exact⟨Ah (by unfold usesIf;rw [h1,h2,h3,h4];rfl),(Ab _).alloc _⟩
theorem s_l5Ends (x:Lnk) (r d:Int) (w:World) :
  Calls Tryz.prog 112 #[.agg #[.int .i64 x.a,.int .i64 x.ai,.int .i64 x.b,.int .i64 x.bi,.int .i64 x.kind],.int .i64 r,.int .i64 d] w fun e w'=>e=.returned (.bool (usesIf x r d))∧Ext w w':=by
 go_enter Tryz.func112,Tryz.ntmps112
 cases h1:(x.a == r) <;> cases h2:(x.ai == d) <;> cases h3:(x.b == r) <;> cases h4:(x.bi == d)
 all_goals
  go_wp2
  go_ret
  exact⟨Ah (by unfold usesIf;rw [h1,h2,h3,h4];rfl),(Ab _).alloc _⟩
theorem i_LinkIndex (t:Topo) (v1 v2:Value) (r d:Int) (w:World) (h2:RdS Lnk.rep w v2 t.links) :
  Calls Tryz.prog 53 #[.agg #[v1,v2],.int .i64 r,.int .i64 d] w fun e w'=>e=.returned (.int .i64 (linkIdx t.links r d))∧Ext w w':=by
 obtain⟨o,cap,rfl,hsm⟩:=h2.shape;obtain⟨hx0,hB⟩:=ea1 w (.cells #[v1,.slice o t.links.length cap] 27);have HB:=Ac hB;clear hB;have hv:=h2.ext hx0;have hLI:linkIdx t.links r d=linkFrom r d 0 t.links:=rfl;have HLI:=Ac hLI;clear hLI;generalize t.links=l at *
 go_enter Tryz.func53,Tryz.ntmps53
 go_wp2
 go_loopg [12] l.length (fun gk i wr=>∃ k:Nat,gk+k=l.length∧i=.int .i64 k∧Hid (linkFrom r d k (l.drop k)=linkFrom r d 0 l)∧Ext (w.alloc (.cells #[v1,.slice o l.length cap] 27)) wr)
 case atStart=>exact⟨0,rfl,rfl,Ac rfl,Ab _⟩
 case round=>
  obtain⟨k,hgk,rfl,HK,hx⟩:=hrel;have hc0:=blk2 (Aa hx HB.out)
  by_cases hlt:k<l.length
  ·
   obtain⟨b,off,rfl,hc⟩:=Lnk.at (hv.ext hx) k hlt;have hg':gk - 1+(k+1)=l.length∧gk - 1<gk:=by omega
   have HG:=Ac hg';clear hg' hgk
   go_wp2_with fail
   refine(i_usesInterface l[k] r d _).mono ?_;rintro e w2 ⟨rfl,k2⟩;have hx2:=(hx.alloc _).trans k2
   cases hu:usesIf l[k] r d
   ·
    have HK2:=Ac ((linkFrom_no hlt hu).symm.trans HK.out)
    go_wp2_with fail
    go_roundg (gk - 1)
    case measure=>exact HG.out.2
    case rel=>exact⟨k+1,HG.out.1,by go_num,HK2,hx2⟩
   have HY:=Ac ((HLI.out.trans HK.out.symm).trans (linkFrom_yes hlt hu))
   go_wp2_with fail
   go_ret
   exact⟨ret_int HY.out.symm,hx0.trans hx2⟩
  have HY:=Ac (HLI.out.trans (HK.out.symm.trans (show _=(-1:Int) by rw [List.drop_of_length_le (by omega)];rfl)))
  go_wp2
  go_ret
  exact⟨ret_int HY.out.symm,hx0.trans hx⟩
theorem s_LinkIndex (t:Topo) (v1 v2:Value) (r d:Int) (w:World) (h2:RdS Lnk.rep w v2 t.links) :
  Calls Tryz.prog 57 #[.agg #[v1,v2],.int .i64 r,.int .i64 d] w fun e w'=>e=.returned (.int .i64 (linkIdx t.links r d))∧Ext w w':=by
 obtain⟨o,cap,rfl,hsm⟩:=h2.shape;obtain⟨hx0,hB⟩:=ea1 w (.cells #[v1,.slice o t.links.length cap] 27);have HB:=Ac hB;clear hB;have hv:=h2.ext hx0;have hLI:linkIdx t.links r d=linkFrom r d 0 t.links:=rfl;have HLI:=Ac hLI;clear hLI;generalize t.links=l at *
 go_enter Tryz.func57,Tryz.ntmps57
 go_wp2
 go_loopg [7] l.length (fun gk i wr=>∃ k:Nat,gk+k=l.length∧i=.int .i64 k∧Hid (linkFrom r d k (l.drop k)=linkFrom r d 0 l)∧Ext (w.alloc (.cells #[v1,.slice o l.length cap] 27)) wr)
 case atStart=>exact⟨0,rfl,rfl,Ac rfl,Ab _⟩
 case round=>
  obtain⟨k,hgk,rfl,HK,hx⟩:=hrel;have hc0:=blk2 (Aa hx HB.out)
  by_cases hlt:k<l.length
  ·
   obtain⟨b,off,rfl,hc⟩:=Lnk.at (hv.ext hx) k hlt;have hg':gk - 1+(k+1)=l.length∧gk - 1<gk:=by omega
   have HG:=Ac hg';clear hg' hgk
   go_wp2_with fail
   refine(s_l5Ends l[k] r d _).mono ?_;rintro e w2 ⟨rfl,k2⟩;have hx2:=(hx).trans k2
   cases hu:usesIf l[k] r d
   ·
    have HK2:=Ac ((linkFrom_no hlt hu).symm.trans HK.out)
    go_wp2_with fail
    go_roundg (gk - 1)
    case measure=>exact HG.out.2
    case rel=>exact⟨k+1,HG.out.1,by go_num,HK2,hx2⟩
   have HY:=Ac ((HLI.out.trans HK.out.symm).trans (linkFrom_yes hlt hu))
   go_wp2_with fail
   go_ret
   exact⟨ret_int HY.out.symm,hx0.trans hx2⟩
  have HY:=Ac (HLI.out.trans (HK.out.symm.trans (show _=(-1:Int) by rw [List.drop_of_length_le (by omega)];rfl)))
  go_wp2
  go_ret
  exact⟨ret_int HY.out.symm,hx0.trans hx⟩
theorem i_Interfaces (t:Topo) (v1 v2:Value) (r:Int) (w:World) (h2:RdS Lnk.rep w v2 t.links) (hl:t.links.length≤1048576) :
  Calls Tryz.prog 51 #[.agg #[v1,v2],.int .i64 r] w fun e w'=>∃ v',e=.returned v'∧OwnF intF 1 w.heap.size 3 w' v' (topoIfs t.links r)∧Ext w w':=by
 obtain⟨o,cap,rfl,hsm⟩:=h2.shape;obtain⟨hx0,hB⟩:=ea1 w (.cells #[v1,.slice o t.links.length cap] 27);have ho0:=OwnF.nil intF 1 w.heap.size 3 (w.alloc (.cells #[v1,.slice o t.links.length cap] 27));have HB:=Ac hB;clear hB;have hv:=h2.ext hx0;have hTI:topoIfs t.links r=t.links.foldl (ifStep r) []:=rfl;have HTI:=Ac hTI;clear hTI;generalize t.links=l at *
 go_enter Tryz.func51,Tryz.ntmps51
 go_wp2
 go_loopg [5,11] l.length (fun gk out i wr=>∃ (k:Nat) (xs:List Int),gk+k=l.length∧i=.int .i64 k∧Hid (xs=(l.take k).foldl (ifStep r) [])∧xs.length≤2 * k∧OwnF intF 1 w.heap.size 3 wr out xs∧Ext (w.alloc (.cells #[v1,.slice o l.length cap] 27)) wr)
 case atStart=>exact⟨0,[],rfl,rfl,Ac rfl,Ae _,ho0,Ab _⟩
 case round=>
  obtain⟨k,xs,hgk,rfl,HX,hxl,hown,hx⟩:=hrel;have hc0:=blk2 (Aa hx HB.out);obtain⟨oo,co,rfl,_⟩:=(Bo hown).shape;have hsz:=hown
  by_cases hlt:k<l.length
  ·
   obtain⟨b,off,rfl,hc⟩:=Lnk.at (hv.ext hx) k hlt;have hg':gk - 1+(k+1)=l.length∧gk - 1<gk:=by omega
   have HG:=Ac hg';clear hg' hgk;have hst:(l.take (k+1)).foldl (ifStep r) []=ifStep r xs l[k]:=by rw [foldl_snoc _ _ hlt,HX.out]
   have HST:=Ac hst;clear hst;have hwr:w.heap.size≤wr.heap.size:=(hx0.t hx).size;have hi1:=insInt_len l[k].ai xs;have hi2:=insInt_len l[k].bi xs;have hi3:=insInt_len l[k].bi (insInt l[k].ai xs);obtain⟨hxa,hBk⟩:=ea1 wr (.cells #[.int .i64 l[k].a,.int .i64 l[k].ai,.int .i64 l[k].b,.int .i64 l[k].bi,.int .i64 l[k].kind] 127);have HBK:=Ac hBk;clear hBk;have hoa:=hown.ext hxa;clear hsz hown
   cases ha:(l[k].a == r)
   ·
    cases hb:(l[k].b == r)
    ·
     have hes:ifStep r xs l[k]=xs:=by unfold ifStep;rw [ha,hb];rfl
     have HE:=Ac (hes.symm.trans HST.out.symm);clear hes
     go_wp2_with fail
     go_roundg (gk - 1)
     case measure=>exact HG.out.2
     case rel=>exact⟨k+1,_,HG.out.1,by go_num,HE,by omega,hoa,hx.trans hxa⟩
    have hes:ifStep r xs l[k]=insInt l[k].bi xs:=by unfold ifStep;rw [ha,hb];rfl
    have HE:=Ac (hes.symm.trans HST.out.symm);clear hes
    go_wp2_with fail
    refine(i_insertInt xs _ l[k].bi w.heap.size _ hoa (Ad hwr hxa.size) (by omega)).mono ?_;rintro e w2 ⟨v2,rfl,o2,k2⟩
    go_wp2_with fail
    go_roundg (gk - 1)
    case measure=>exact HG.out.2
    case rel=>exact⟨k+1,_,HG.out.1,by go_num,HE,by omega,o2,(hx.t hxa).trans k2⟩
   go_wp2_with fail
   refine(i_insertInt xs _ l[k].ai w.heap.size _ hoa (Ad hwr hxa.size) (by omega)).mono ?_;rintro e w2 ⟨v2,rfl,o2,k2⟩;obtain⟨oo2,co2,rfl,_⟩:=(Bo o2).shape;have hcb:=blk5 (Aa k2 HBK.out)
   cases hb:(l[k].b == r)
   ·
    have hes:ifStep r xs l[k]=insInt l[k].ai xs:=by unfold ifStep;rw [ha,hb];rfl
    have HE:=Ac (hes.symm.trans HST.out.symm);clear hes
    go_wp2_with fail
    go_roundg (gk - 1)
    case measure=>exact HG.out.2
    case rel=>exact⟨k+1,_,HG.out.1,by go_num,HE,by omega,o2,(hx.t hxa).trans k2⟩
   have hes:ifStep r xs l[k]=insInt l[k].bi (insInt l[k].ai xs):=by unfold ifStep;rw [ha,hb];rfl
   have HE:=Ac (hes.symm.trans HST.out.symm);clear hes
   go_wp2_with fail
   refine(i_insertInt _ _ l[k].bi w.heap.size _ o2 (Ad hwr (hxa.trans k2).size) (by omega)).mono ?_;rintro e w3 ⟨v3,rfl,o3,k3⟩
   go_wp2_with fail
   go_roundg (gk - 1)
   case measure=>exact HG.out.2
   case rel=>exact⟨k+1,_,HG.out.1,by go_num,HE,by omega,o3,((hx.t hxa).trans k2).trans k3⟩
  have hxs:xs=topoIfs l r:=by
   have:=HX.out;rw [List.take_of_length_le (by omega)] at this;exact this
  have HXS:=Ac hxs;clear hxs
  go_wp2
  go_ret
  rw [← HXS.out];exact⟨_,rfl,hown,hx0.trans hx⟩
theorem s_Interfaces (t:Topo) (v1 v2:Value) (r:Int) (w:World) (h2:RdS Lnk.rep w v2 t.links) (hl:t.links.length≤1048576) :
  Calls Tryz.prog 55 #[.agg #[v1,v2],.int .i64 r] w fun e w'=>∃ v',e=.returned v'∧OwnF intF 1 w.heap.size 3 w' v' (topoIfs t.links r)∧Ext w w':=by
 obtain⟨o,cap,rfl,hsm⟩:=h2.shape;have hx0:Ext w ((w.alloc (.cells #[v1,.slice o t.links.length cap] 27)).alloc (.cells #[] 3)):=((Ab _).alloc _).alloc _;have hB:=Aa ((Ab _).alloc (.cells #[] 3)) (blk_new w (.cells #[v1,.slice o t.links.length cap] 27));have ho0:=(Bj intF 1 (w.alloc (.cells #[v1,.slice o t.links.length cap] 27)).heap.size 3 (w.alloc (.cells #[v1,.slice o t.links.length cap] 27)) (Ae _)).mono (base':=w.heap.size) (by simp);simp only [nblk_alloc] at ho0;have HB:=Ac hB;clear hB;have hv:=h2.ext hx0;have hTI:topoIfs t.links r=t.links.foldl (ifStep r) []:=rfl;have HTI:=Ac hTI;clear hTI;generalize t.links=l at *
 go_enter Tryz.func55,Tryz.ntmps55
 go_wp2
 go_loopg [5,6] l.length (fun gk out i wr=>∃ (k:Nat) (xs:List Int),gk+k=l.length∧i=.int .i64 k∧Hid (xs=(l.take k).foldl (ifStep r) [])∧xs.length≤2 * k∧OwnF intF 1 w.heap.size 3 wr out xs∧Ext ((w.alloc (.cells #[v1,.slice o l.length cap] 27)).alloc (.cells #[] 3)) wr)
 case atStart=>exact⟨0,[],rfl,rfl,Ac rfl,Ae _,ho0,Ab _⟩
 case round=>
  obtain⟨k,xs,hgk,rfl,HX,hxl,hown,hx⟩:=hrel;have hc0:=blk2 (Aa hx HB.out);obtain⟨oo,co,rfl,_⟩:=(Bo hown).shape;have hsz:=hown
  by_cases hlt:k<l.length
  ·
   obtain⟨b,off,rfl,hc⟩:=Lnk.at (hv.ext hx) k hlt;have hg':gk - 1+(k+1)=l.length∧gk - 1<gk:=by omega
   have HG:=Ac hg';clear hg' hgk;have hst:(l.take (k+1)).foldl (ifStep r) []=ifStep r xs l[k]:=by rw [foldl_snoc _ _ hlt,HX.out]
   have HST:=Ac hst;clear hst;have hwr:w.heap.size≤wr.heap.size:=(hx0.t hx).size;have hi1:=insInt_len l[k].ai xs;have hi2:=insInt_len l[k].bi xs;have hi3:=insInt_len l[k].bi (insInt l[k].ai xs);have hxa:Ext wr wr:=Ab _;have hoa:=hown.ext hxa;clear hsz hown
   cases ha:(l[k].a == r)
   ·
    cases hb:(l[k].b == r)
    ·
     have hes:ifStep r xs l[k]=xs:=by unfold ifStep;rw [ha,hb];rfl
     have HE:=Ac (hes.symm.trans HST.out.symm);clear hes
     go_wp2_with fail
     go_roundg (gk - 1)
     case measure=>exact HG.out.2
     case rel=>exact⟨k+1,_,HG.out.1,by go_num,HE,by omega,hoa,hx.trans hxa⟩
    have hes:ifStep r xs l[k]=insInt l[k].bi xs:=by unfold ifStep;rw [ha,hb];rfl
    have HE:=Ac (hes.symm.trans HST.out.symm);clear hes
    go_wp2_with fail
    refine(s_l5Put xs _ l[k].bi w.heap.size _ hoa (Ad hwr hxa.size) (by omega)).mono ?_;rintro e w2 ⟨v2,rfl,o2,k2⟩
    go_wp2_with fail
    go_roundg (gk - 1)
    case measure=>exact HG.out.2
    case rel=>exact⟨k+1,_,HG.out.1,by go_num,HE,by omega,o2,(hx.t hxa).trans k2⟩
   go_wp2_with fail
   refine(s_l5Put xs _ l[k].ai w.heap.size _ hoa (Ad hwr hxa.size) (by omega)).mono ?_;rintro e w2 ⟨v2,rfl,o2,k2⟩;obtain⟨oo2,co2,rfl,_⟩:=(Bo o2).shape;have hcb:=blk2 (Aa (hx.trans (hxa.trans k2)) HB.out);have hcc:=Lnk.at_ext (hxa.trans k2) hc
   cases hb:(l[k].b == r)
   ·
    have hes:ifStep r xs l[k]=insInt l[k].ai xs:=by unfold ifStep;rw [ha,hb];rfl
    have HE:=Ac (hes.symm.trans HST.out.symm);clear hes
    go_wp2_with fail
    go_roundg (gk - 1)
    case measure=>exact HG.out.2
    case rel=>exact⟨k+1,_,HG.out.1,by go_num,HE,by omega,o2,(hx.t hxa).trans k2⟩
   have hes:ifStep r xs l[k]=insInt l[k].bi (insInt l[k].ai xs):=by unfold ifStep;rw [ha,hb];rfl
   have HE:=Ac (hes.symm.trans HST.out.symm);clear hes
   go_wp2_with fail
   refine(s_l5Put _ _ l[k].bi w.heap.size _ o2 (Ad hwr (hxa.trans k2).size) (by omega)).mono ?_;rintro e w3 ⟨v3,rfl,o3,k3⟩
   go_wp2_with fail
   go_roundg (gk - 1)
   case measure=>exact HG.out.2
   case rel=>exact⟨k+1,_,HG.out.1,by go_num,HE,by omega,o3,((hx.t hxa).trans k2).trans k3⟩
  have hxs:xs=topoIfs l r:=by
   have:=HX.out;rw [List.take_of_length_le (by omega)] at this;exact this
  have HXS:=Ac hxs;clear hxs
  go_wp2
  go_ret
  rw [← HXS.out];exact⟨_,rfl,hown,hx0.trans hx⟩
theorem i_ValidSet (n:Int) (w:World):Calls Tryz.prog 109 #[.int .i64 n] w fun e w'=>e=.returned (.bool (inR n 0 65535))∧w=w':=by
 go_enter Tryz.func109,Tryz.ntmps109
 go_wp2_with fail
 refine(i_InRange _ _ _ _).mono ?_;rintro e w1 ⟨rfl,rfl⟩
 go_wp2_with fail
 go_ret
 exact⟨rfl,rfl⟩
theorem i_AddElement (s i:Int) (w:World):Calls Tryz.prog 54 #[.int .i64 s,.int .i64 i] w fun e w'=>e=.returned (.int .i64 (addEl s i))∧w=w':=by
 go_enter Tryz.func54,Tryz.ntmps54
 go_wp2_with fail
 refine(i_ValidSet _ _).mono ?_;rintro e w1 ⟨rfl,rfl⟩
 cases h1:inR s 0 65535
 ·
  have HE:=Ac (addEl_no1 (i:=i) h1)
  go_wp2_with fail
  go_ret
  exact⟨ret_int HE.out.symm,rfl⟩
 go_wp2_with fail
 refine(i_InRange _ _ _ _).mono ?_;rintro e w1 ⟨rfl,rfl⟩
 cases h2:inR i 0 15
 ·
  have HE:=Ac (addEl_no2 (s:=s) h2)
  go_wp2_with fail
  go_ret
  exact⟨ret_int HE.out.symm,rfl⟩
 have HE:=Ac (addEl_yes h1 h2);obtain⟨a3,a4⟩:=Bk.1 h2;clear h2;have hi:i=0∨i=1∨i=2∨i=3∨i=4∨i=5∨i=6∨i=7∨i=8∨i=9∨i=10∨i=11∨i=12∨i=13∨i=14∨i=15:=by omega
 clear a3 a4
 rcases hi with rfl | rfl | rfl | rfl | rfl | rfl | rfl | rfl | rfl | rfl | rfl | rfl | rfl | rfl | rfl | rfl
 all_goals
  go_wp2_with fail
  go_ret
  exact⟨ret_int (HE.out.trans rfl).symm,rfl⟩
theorem s_ValidSet (n:Int) (w:World):Calls Tryz.prog 113 #[.int .i64 n] w fun e w'=>e=.returned (.bool (inR n 0 65535))∧w=w':=by
 go_enter Tryz.func113,Tryz.ntmps113
 go_wp2_with fail
 refine(s_l1In _ _ _ _).mono ?_;rintro e w1 ⟨rfl,rfl⟩
 go_wp2_with fail
 go_ret
 exact⟨rfl,rfl⟩
theorem s_l4One (n:Int) (w:World):Calls Tryz.prog 114 #[.int .i64 n] w fun e w'=>e=.returned (.bool (inR n 0 15))∧w=w':=by
 go_enter Tryz.func114,Tryz.ntmps114
 go_wp2_with fail
 refine(s_l1In _ _ _ _).mono ?_;rintro e w1 ⟨rfl,rfl⟩
 go_wp2_with fail
 go_ret
 exact⟨rfl,rfl⟩
theorem s_AddElement (s i:Int) (w:World):Calls Tryz.prog 58 #[.int .i64 s,.int .i64 i] w fun e w'=>e=.returned (.int .i64 (addEl s i))∧w=w':=by
 go_enter Tryz.func58,Tryz.ntmps58
 go_wp2_with fail
 refine(s_ValidSet _ _).mono ?_;rintro e w1 ⟨rfl,rfl⟩
 cases h1:inR s 0 65535
 ·
  have HE:=Ac (addEl_no1 (i:=i) h1)
  go_wp2_with fail
  go_ret
  exact⟨ret_int HE.out.symm,rfl⟩
 go_wp2_with fail
 refine(s_l4One _ _).mono ?_;rintro e w1 ⟨rfl,rfl⟩
 cases h2:inR i 0 15
 ·
  have HE:=Ac (addEl_no2 (s:=s) h2)
  go_wp2_with fail
  go_ret
  exact⟨ret_int HE.out.symm,rfl⟩
 have HE:=Ac (addEl_yes h1 h2);obtain⟨a3,a4⟩:=Bk.1 h2;clear h2;have hi:i=0∨i=1∨i=2∨i=3∨i=4∨i=5∨i=6∨i=7∨i=8∨i=9∨i=10∨i=11∨i=12∨i=13∨i=14∨i=15:=by omega
 clear a3 a4
 rcases hi with rfl | rfl | rfl | rfl | rfl | rfl | rfl | rfl | rfl | rfl | rfl | rfl | rfl | rfl | rfl | rfl
 all_goals
  go_wp2_with fail
  go_ret
  exact⟨ret_int (HE.out.trans rfl).symm,rfl⟩
theorem i_FailedInterfaces (t:Topo) (v1 v2:Value) (dead:List Int) (vd:Value) (r:Int) (w:World) (_:RdS ASd.rep w v1 t.ases) (h2:RdS Lnk.rep w v2 t.links) (hd:RdS Rep.int w vd dead) (hlt:t.size≤1048576) :
  Calls Tryz.prog 14 #[.agg #[v1,v2],vd,.int .i64 r] w fun e w'=>e=.returned (.int .i64 (failedIfs t dead r))∧Ext w w':=by
 have hl:t.links.length≤1048576:=by unfold Topo.size at hlt;omega
 clear hlt;obtain⟨hx0,hB⟩:=ea1 w (.cells #[v1,v2] 27);have HB:=Ac hB;clear hB
 go_enter Tryz.func14,Tryz.ntmps14
 go_wp2_with fail
 refine(i_Interfaces t _ _ r _ (h2.ext hx0) hl).mono ?_;rintro e w1 ⟨u1,rfl,o1,hx1⟩;have hFI:failedIfs t dead r=(topoIfs t.links r).foldl (failStep t dead r) 0:=rfl;have HFI:=Ac hFI;clear hFI;have htl:=topoIfs_len t.links r;generalize topoIfs t.links r=l at *;obtain⟨oa,ca,rfl,hsa⟩:=(Bo o1).shape
 go_wp2
 go_loopg [7,14] l.length (fun gk s i wr=>∃ (k:Nat),gk+k=l.length∧i=.int .i64 k∧s=.int .i64 ((l.take k).foldl (failStep t dead r) 0)∧Ext w1 wr)
 case atStart=>exact⟨0,rfl,rfl,rfl,Ab _⟩
 case round=>
  obtain⟨k,hgk,rfl,rfl,hx⟩:=hrel;have hc0:=blk2 (Aa (hx1.t hx) HB.out)
  by_cases hlt:k<l.length
  ·
   obtain⟨b,off,rfl,hc⟩:=ints_at ((Bo o1).ext hx) k hlt;have hg':gk - 1+(k+1)=l.length∧gk - 1<gk:=by omega
   have HG:=Ac hg';clear hg' hgk;have HS:=Ac (foldl_snoc (failStep t dead r) 0 hlt);generalize (l.take k).foldl (failStep t dead r) 0=s at *;have hX:=(hx0.t hx1).t hx
   go_wp2_with fail
   refine(i_LinkIndex t _ _ r l[k] _ (h2.ext hX)).mono ?_;rintro e w2 ⟨rfl,k2⟩
   go_wp2_with fail
   refine(i_hasInt dead _ _ _ (hd.ext (hX.trans k2))).mono ?_;rintro e w3 ⟨rfl,rfl⟩;have hx2:Ext wr w2:=k2
   cases hh:hasI dead (linkIdx t.links r l[k])
   ·
    have hes:failStep t dead r s l[k]=s:=by unfold failStep;rw [hh];rfl
    have HE:=Ac (HS.out.trans hes);clear hes
    go_wp2_with fail
    go_roundg (gk - 1)
    case measure=>exact HG.out.2
    case rel=>exact⟨k+1,HG.out.1,by go_num,by rw [HE.out],hx.trans hx2⟩
   have hes:failStep t dead r s l[k]=addEl s l[k]:=by unfold failStep;rw [hh];rfl
   have HE:=Ac (HS.out.trans hes);clear hes;have hc2:=hx2.cell hc
   go_wp2_with fail
   refine(i_AddElement _ _ _).mono ?_;rintro e w4 ⟨rfl,rfl⟩
   go_wp2_with fail
   go_roundg (gk - 1)
   case measure=>exact HG.out.2
   case rel=>exact⟨k+1,HG.out.1,by go_num,by rw [HE.out],hx.trans hx2⟩
  have hy:failedIfs t dead r=(l.take k).foldl (failStep t dead r) 0:=by rw [HFI.out,List.take_of_length_le (by omega)]
  have HY:=Ac hy;clear hy;generalize (l.take k).foldl (failStep t dead r) 0=s at *
  go_wp2
  go_ret
  exact⟨ret_int HY.out.symm,(hx0.t hx1).t hx⟩
theorem s_FailedInterfaces (t:Topo) (v1 v2:Value) (dead:List Int) (vd:Value) (r:Int) (w:World) (_:RdS ASd.rep w v1 t.ases) (h2:RdS Lnk.rep w v2 t.links) (hd:RdS Rep.int w vd dead) (hlt:t.size≤1048576) :
  Calls Tryz.prog 15 #[.agg #[v1,v2],vd,.int .i64 r] w fun e w'=>e=.returned (.int .i64 (failedIfs t dead r))∧Ext w w':=by
 have hl:t.links.length≤1048576:=by unfold Topo.size at hlt;omega
 clear hlt;obtain⟨hx0,hB⟩:=ea1 w (.cells #[v1,v2] 27);have HB:=Ac hB;clear hB
 go_enter Tryz.func15,Tryz.ntmps15
 go_wp2_with fail
 refine(s_Interfaces t _ _ r _ (h2.ext hx0) hl).mono ?_;rintro e w1 ⟨u1,rfl,o1,hx1⟩;have hFI:failedIfs t dead r=(topoIfs t.links r).foldl (failStep t dead r) 0:=rfl;have HFI:=Ac hFI;clear hFI;have htl:=topoIfs_len t.links r;generalize topoIfs t.links r=l at *;obtain⟨oa,ca,rfl,hsa⟩:=(Bo o1).shape
 go_wp2
 go_loopg [7,9] l.length (fun gk s i wr=>∃ (k:Nat),gk+k=l.length∧i=.int .i64 k∧s=.int .i64 ((l.take k).foldl (failStep t dead r) 0)∧Ext w1 wr)
 case atStart=>exact⟨0,rfl,rfl,rfl,Ab _⟩
 case round=>
  obtain⟨k,hgk,rfl,rfl,hx⟩:=hrel;have hc0:=blk2 (Aa (hx1.t hx) HB.out)
  by_cases hlt:k<l.length
  ·
   obtain⟨b,off,rfl,hc⟩:=ints_at ((Bo o1).ext hx) k hlt;have hg':gk - 1+(k+1)=l.length∧gk - 1<gk:=by omega
   have HG:=Ac hg';clear hg' hgk;have HS:=Ac (foldl_snoc (failStep t dead r) 0 hlt);generalize (l.take k).foldl (failStep t dead r) 0=s at *;have hX:=(hx0.t hx1).t hx
   go_wp2_with fail
   refine Ax (.blk [0,1,2,3,4,5,6] (.one 7 (.one 8 .done))) [] (by kernel_rfl) (by kernel_rfl) ?_;refine blkStep (fun K HK=>?_);simp only [PK]
   go_wp2_with fail
   refine HK.out _ _ ?_;clear HK K;refine oneStep (fun K HK=>?_);simp only [PK]
   go_wp2_with fail
   refine(s_LinkIndex t _ _ r l[k] _ (h2.ext hX.drew)).mono ?_;rintro e w2 ⟨rfl,k2⟩
   go_wp2_with fail
   refine HK.out _ _ (k2) ?_;clear HK K;refine oneStep (fun K HK=>?_);simp only [PK]
   go_wp2_with fail
   refine(s_l9Has dead _ _ _ (hd.ext (hX.drew.trans k2))).mono ?_;rintro e w3 ⟨rfl,rfl⟩;have hx2:Ext wr w2:=(Ab wr).drew.trans k2
   cases hh:hasI dead (linkIdx t.links r l[k])
   ·
    have hes:failStep t dead r s l[k]=s:=by unfold failStep;rw [hh];rfl
    have HE:=Ac (HS.out.trans hes);clear hes
    go_wp2_with fail
    refine HK.out _ _ (Ab _) ?_;clear HK K;refine Ap (by kernel_rfl) ?_
    go_wp2_with fail
    go_roundg (gk - 1)
    case measure=>exact HG.out.2
    case rel=>exact⟨k+1,HG.out.1,by go_num,by rw [HE.out],hx.trans hx2⟩
   have hes:failStep t dead r s l[k]=addEl s l[k]:=by unfold failStep;rw [hh];rfl
   have HE:=Ac (HS.out.trans hes);clear hes;have hc2:=hx2.cell hc
   go_wp2_with fail
   refine HK.out _ _ (Ab _) ?_;clear HK K;refine Ap (by kernel_rfl) ?_
   go_wp2_with fail
   refine(s_AddElement _ _ _).mono ?_;rintro e w4 ⟨rfl,rfl⟩
   go_wp2_with fail
   go_roundg (gk - 1)
   case measure=>exact HG.out.2
   case rel=>exact⟨k+1,HG.out.1,by go_num,by rw [HE.out],hx.trans hx2⟩
  have hy:failedIfs t dead r=(l.take k).foldl (failStep t dead r) 0:=by rw [HFI.out,List.take_of_length_le (by omega)]
  have HY:=Ac hy;clear hy;generalize (l.take k).foldl (failStep t dead r) 0=s at *
  go_wp2
  go_ret
  exact⟨ret_int HY.out.symm,(hx0.t hx1).t hx⟩
end
section
open Go.RowKit
def digStep (d x:Int):Int:=(d * 1000003+x % 2147483647+11) % 2147483647
def digest (l:List Int):Int:=l.foldl digStep 7
theorem digStep_res (d x:Int):0≤digStep d x∧digStep d x≤2147483646:=by unfold digStep;omega
def macOf (key:Int) (l:List Int):Int:=digest ([key] ++ l ++ [key])
def hopMac (key ts beta:Int) (h:Hop):Int:=macOf key [ts,beta,h.asn,h.ing,h.eg,h.exp]
def validHop (h:Hop):Bool:=inR h.asn 0 7 && inR h.ing 0 6 && inR h.eg 0 6 && (h.ing != h.eg) && inR h.exp 0 1000000 && isRes h.mac
def isAs (t:Topo) (r:Int):Bool:=inR r 0 ((t.ases.length:Int) - 1)
def asAt (t:Topo) (r:Int):ASd:=match t.ases[r.toNat]? with | some a=>a | none=>⟨0,false,0⟩
theorem asAt_at {t:Topo} {r:Int} (_:0≤r) (h:r.toNat<t.ases.length):asAt t r=t.ases[r.toNat]:=by unfold asAt;rw [List.getElem?_eq_getElem h]
theorem isAs_lt {t:Topo} {r:Int} (h:isAs t r=true):0≤r∧r.toNat<t.ases.length:=by
 have:=Bk.1 h;omega
def verHop (t:Topo) (ts beta:Int) (h:Hop):Bool:=validHop h && isAs t h.asn && (h.mac == hopMac (asAt t h.asn).key ts beta h)
def remEnd (t:Topo) (r d:Int):Int×Int:=if linkIdx t.links r d<0 then (-1,0) else match t.links[(linkIdx t.links r d).toNat]? with
  | some l => if (l.a == r) && (l.ai == d) then (l.b, l.bi) else (l.a, l.ai)
  | none => (-1, 0)
def ifKind (t:Topo) (r d:Int):Int:=if d == 0 then 5 else if linkIdx t.links r d<0 then 0 else match t.links[(linkIdx t.links r d).toNat]? with
  | some l => if l.kind == 1 then 1 else if l.kind == 3 then 4 else if l.kind == 2 then (if (l.a == r) && (l.ai == d) then 2 else 3) else 0
  | none => 0
theorem linkFrom_lt {r d:Int}:∀ {l:List Lnk} {k:Nat},linkFrom r d k l<(k+l.length:Int)
 | [], k => by simp [linkFrom]; omega
 | x :: l, k => by
  unfold linkFrom
  split
  ·
   simp only [List.length_cons];omega
  have:=linkFrom_lt (r:=r) (d:=d) (l:=l) (k:=k+1);simp only [List.length_cons];omega
theorem linkIdx_lt (l:List Lnk) (r d:Int):linkIdx l r d<l.length:=by
 have:=linkFrom_lt (r:=r) (d:=d) (l:=l) (k:=0);unfold linkIdx;omega
def allTo (p:Nat→Bool):Nat→Bool
  | 0 => true
  | k + 1 => allTo p k && p k
theorem allTo_true {p:Nat→Bool}:∀ {n:Nat},allTo p n=true↔∀ k<n,p k=true
 | 0 => by simp [allTo]
 | n + 1 => by
  simp only [allTo,Bool.and_eq_true,allTo_true]
  constructor
  ·
   intro h k hk
   rcases Nat.lt_or_ge k n with h1 | h1
   ·
    exact h.1 k h1
   obtain rfl:k=n:=by omega
   exact h.2
  intro h;exact⟨fun k hk=>h k (by omega),h n (by omega)⟩
theorem allTo_no {p:Nat→Bool} {n k:Nat} (hk:k<n) (h:p k=false):allTo p n=false:=by
 cases h1:allTo p n
 ·
  rfl
 have:=allTo_true.1 h1 k hk;rw [h] at this;cases this
theorem allTo_snoc {p:Nat→Bool} {k:Nat} (h:allTo p k=true) (h1:p k=true):allTo p (k+1)=true:=by simp [allTo,h,h1]
def hopAt (l:List Hop) (i:Nat):Hop:=match l[i]? with | some h=>h | none=>⟨0,0,0,0,0⟩
theorem hopAt_at {l:List Hop} {i:Nat} (h:i<l.length):hopAt l i=l[i]:=by unfold hopAt;rw [List.getElem?_eq_getElem h]
def hopFresh (t:Topo) (l:List Hop) (i:Nat):Bool:=validHop (hopAt l i) && isAs t (hopAt l i).asn && !(hasI ((l.map (·.asn)).take i) (hopAt l i).asn)
def hopsOk (t:Topo) (l:List Hop):Bool:=inR (l.length:Int) 1 8 && allTo (hopFresh t l) l.length
def joinAt (t:Topo) (p:Part) (i:Nat):Bool:=(partEg p i != 0) && ((remEnd t (hopAt p.hops i).asn (partEg p i)).1 == (hopAt p.hops (i+1)).asn) && ((remEnd t (hopAt p.hops i).asn (partEg p i)).2 == partIn p (i+1:Nat))
def validPart (t:Topo) (p:Part):Bool:=inR p.kind 1 4 && hopsOk t p.hops && inR p.ts 0 1000000 && isRes p.beta && allTo (joinAt t p) (p.hops.length - 1)
def rank (k:Int):Int:=if k == 1 then 1 else if k == 2 || k == 3 then 2 else 3
def partAt (l:List Part) (i:Nat):Part:=match l[i]? with | some x=>x | none=>⟨0,0,0,[]⟩
theorem partAt_at {l:List Part} {i:Nat} (h:i<l.length):partAt l i=l[i]:=by unfold partAt;rw [List.getElem?_eq_getElem h]
def followAt (l:List Part) (i:Nat):Bool:=decide (rank (partAt l i).kind<rank (partAt l (i+1)).kind) && ((hopAt (partAt l i).hops ((partAt l i).hops.length - 1)).asn == (hopAt (partAt l (i+1)).hops 0).asn)
def partOk (t:Topo) (l:List Part) (i:Nat):Bool:=validPart t (partAt l i) && (decide (i=0) || followAt l (i - 1))
def wfPath (t:Topo) (p:Pth):Bool:=inR (p.parts.length:Int) 1 3 && allTo (partOk t p.parts) p.parts.length
def freshAt (l:List Int) (i:Nat):Bool:=match l[i]? with | some n=>!(hasI (l.take i) n) | none=>true
theorem freshAt_at {l:List Int} {i:Nat} (h:i<l.length):freshAt l i=!(hasI (l.take i) l[i]):=by unfold freshAt;rw [List.getElem?_eq_getElem h]
def simple (t:Topo) (p:Pth):Bool:=wfPath t p && allTo (freshAt (usedIfs (pathSteps p.parts))) (usedIfs (pathSteps p.parts)).length
def betaFor (x:Part) (i:Nat):Int:=if isRev x.kind then betaAfter x (i+1:Nat) else betaAfter x i
def verPart (t:Topo) (x:Part):Bool:=allTo (fun i=>verHop t x.ts (betaFor x i) (hopAt x.hops i)) x.hops.length
def verPath (t:Topo) (p:Pth):Bool:=allTo (fun i=>verPart t (partAt p.parts i)) p.parts.length
def hopsIn (now:Int) (l:List Hop):Bool:=l.all (fun h=>decide (now≤h.exp))
def partIn' (now:Int) (x:Part):Bool:=decide (x.ts≤now) && hopsIn now x.hops
def usable (t:Topo) (p:Pth) (now:Int):Bool:=simple t p && verPath t p && allTo (fun i=>partIn' now (partAt p.parts i)) p.parts.length
def leastExp:List Hop→Int
  | [] => 0
  | h :: l => l.foldl (fun m x => if x.exp < m then x.exp else m) h.exp
theorem leastF_le (now:Int):∀ (l:List Hop) (m:Int),(now≤l.foldl (fun m x=>if x.exp<m then x.exp else m) m)↔now≤m∧∀ x∈l,now≤x.exp
 | [], m => by simp
 | x :: l, m => by
  rw [List.foldl_cons,leastF_le now l];simp only [List.mem_cons,forall_eq_or_imp]
  split <;> constructor <;> rintro ⟨h1,h2⟩ <;> refine⟨?_,?_⟩ <;> (first | omega | exact h2 | exact h2.2 | (refine⟨?_,?_⟩ <;> (first | omega | exact h2)))
theorem least_in {now:Int} {l:List Hop} (h:0<l.length):hopsIn now l=decide (now≤leastExp l):=by
 cases l with
 | nil => simp at h
 | cons x l =>
  unfold hopsIn leastExp;rw [Bool.eq_iff_iff];simp only [List.all_eq_true,decide_eq_true_eq,leastF_le,List.mem_cons,forall_eq_or_imp]
def hopsEnc (l:List Hop):Bool:=decide (l.length≤8) && l.all validHop
def encPart (x:Part):Bool:=inR x.kind 1 4 && inR x.ts 0 1000000 && isRes x.beta && hopsEnc x.hops
def encPath (p:Pth):Bool:=decide (p.parts.length≤3) && p.parts.all encPart
def curPart (x:Pkt):Part:=partAt x.path.parts x.pi.toNat
def curHop (x:Pkt):Hop:=hopAt (curPart x).hops x.hi.toNat
def hasHop (x:Pkt):Bool:=inR x.pi 0 ((x.path.parts.length:Int) - 1) && inR x.hi 0 (((curPart x).hops.length:Int) - 1)
def curAs (x:Pkt):Int:=if hasHop x then (curHop x).asn else -1
def validPkt (x:Pkt):Bool:=inR x.kind 1 3 && encPath x.path && hasHop x && isRes x.beta && x.path.parts.all (fun y=>decide (0<y.hops.length)) && inR x.src 0 7 && inR x.dst 0 7 && inR x.rid 0 100000 && inR x.seq 0 100000 && decide (x.pay.length≤40)
def lastOf (x:Pkt):Bool:=x.hi == ((curPart x).hops.length:Int) - 1
def atLast (x:Pkt):Bool:=decide (0≤curAs x) && lastOf x && (x.pi == (x.path.parts.length:Int) - 1)
def advance (x:Pkt):Pkt:=if curAs x<0 || atLast x then x else if lastOf x then { x with pi:=x.pi+1,hi:=0,beta:=(partAt x.path.parts (x.pi.toNat+1)).beta } else { x with hi:=x.hi+1 }
def curBefore (x:Pkt):Int:=if isRev (curPart x).kind then subMod x.beta (curHop x).mac else x.beta
def curAfter (x:Pkt):Int:=if isRev (curPart x).kind then subMod x.beta (curHop x).mac else addMod x.beta (curHop x).mac
def curOk (t:Topo) (x:Pkt):Bool:=hasHop x && verHop t (curPart x).ts (curBefore x) (curHop x)
def verCur (t:Topo) (x:Pkt):Pkt:=if curOk t x then { x with beta:=curAfter x } else x
def curIn (x:Pkt) (now:Int):Bool:=decide (0≤curAs x) && decide ((curPart x).ts≤now) && decide (now≤(curHop x).exp)
def transitOk (a b:Int):Bool:=
  if a == 5 || a == 2 then b == 1 || b == 2 || b == 3 || b == 5
  else if a == 3 then b == 2 || b == 5
  else if a == 1 then b == 1 || b == 2 || b == 5
  else false
def stepOk (t:Topo) (s:Step):Bool:=transitOk (ifKind t s.asn s.ing) (ifKind t s.asn s.eg) && ((s.ing != s.eg) || (s.ing == 0))
def bitAt (s:Int):Nat→Bool
  | i => (s / 2 ^ i) % 2 == 1
def inSet (s i:Int):Bool:=inR s 0 65535 && inR i 0 15 && bitAt s i.toNat
structure Vd where
  code:Int
  eg:Int
  pkt:Pkt
  deriving DecidableEq
def chkCode (t:Topo) (now:Int) (x:Pkt):Int:=if curOk t x then (if curIn x now then 0 else 5) else 4
def chkAll (t:Topo) (now:Int):Nat→Pkt→Int×Pkt
  | 0, x => (chkCode t now x, verCur t x)
  | f + 1, x => if chkCode t now x == 0 && lastOf (verCur t x) && !(atLast (verCur t x)) then chkAll t now f (advance (verCur t x)) else (chkCode t now x, verCur t x)
def wantIn (x:Pkt):Int:=if x.pi == 0 && x.hi == 0 then 0 else partIn (curPart x) x.hi
def forward (t:Topo) (r now dead inn:Int) (x:Pkt):Vd:=
  if !(validPkt x && simple t x.path && (curAs x == r)) then ⟨2,0,x⟩
  else if inn != wantIn x then ⟨3,0,x⟩
  else
    let c:=chkAll t now x.path.parts.length x
    if c.1 != 0 then ⟨c.1,0,x⟩
    else if atLast c.2 then (if c.2.dst == r then ⟨1,0,c.2⟩ else ⟨2,0,x⟩)
    else
      let out:=partEg (curPart c.2) c.2.hi
      if !(stepOk t ⟨r,inn,out⟩) then ⟨6,0,x⟩
      else if inSet dead out then ⟨7,0,x⟩
      else ⟨0,out,advance c.2⟩
structure TrSt where
  r:Int
  inn:Int
  code:Int
  steps:List Step
  pkt:Pkt
end
section
open Go.ChangeShapes Go.WideShapes Go.ChangeAt Go.RowKit Go.Deep
theorem insInt_mem {n y:Int}:∀ {l:List Int},y∈insInt n l↔y=n∨y∈l
 | [] => by simp [insInt]
 | x :: l => by
  unfold insInt
  split
  ·
   rw [List.mem_cons,insInt_mem,List.mem_cons]
   constructor
   ·
    rintro (h | h | h)
    ·
     exact .inr (.inl h)
    ·
     exact .inl h
    exact .inr (.inr h)
   rintro (h | h | h)
   ·
    exact .inr (.inl h)
   ·
    exact .inl h
   exact .inr (.inr h)
  split
  ·
   rename_i h
   subst h
   simp
  simp
theorem insInt_new {n:Int}:∀ {l:List Int},n ∉ l→(insInt n l).length=l.length+1
 | [], _ => rfl
 | x :: l, h => by
  simp only [List.mem_cons,not_or] at h;unfold insInt
  split
  ·
   simp [insInt_new h.2]
  split
  ·
   rename_i e;exact absurd e.symm h.1
  simp
theorem insInt_more (n:Int) (l:List Int):l.length≤(insInt n l).length:=by
 induction l with
 | nil => simp
 | cons x l ih => unfold insInt; split <;> (try split) <;> simp <;> omega
def lnkEnds (x:Lnk):List (Int×Int):=[(x.a,x.ai),(x.b,x.bi)]
def allEnds (l:List Lnk):List (Int×Int):=l.flatMap lnkEnds
theorem allEnds_app (l m:List Lnk):allEnds (l ++ m)=allEnds l ++ allEnds m:=by simp [allEnds]
theorem topoIfs_app (l:List Lnk) (x:Lnk) (r:Int):topoIfs (l ++ [x]) r=ifStep r (topoIfs l r) x:=by simp [topoIfs]
theorem ifStep_mem {r n:Int} {out:List Int} {x:Lnk}:n∈ifStep r out x↔(r,n)∈lnkEnds x∨n∈out:=by
 unfold ifStep lnkEnds;simp only [List.mem_cons,List.not_mem_nil,or_false,Prod.mk.injEq]
 split <;> split <;> simp_all [insInt_mem] <;> grind
theorem ifStep_more (r:Int) (out:List Int) (x:Lnk):out.length≤(ifStep r out x).length:=by
 unfold ifStep;have h1:=insInt_more x.ai out;have h2:=insInt_more x.bi out;have h3:=insInt_more x.bi (insInt x.ai out)
 split <;> split <;> omega
theorem topoIfs_mem {r n:Int}:∀ {l:List Lnk} {out:List Int},n∈l.foldl (ifStep r) out↔(r,n)∈allEnds l∨n∈out
 | [], out => by simp [allEnds]
 | x :: l, out => by
  rw [List.foldl_cons,topoIfs_mem,ifStep_mem];simp only [allEnds,List.flatMap_cons,List.mem_append]
  grind
def Laid (l:List Lnk):Prop:=(∀ r n,(r,n)∈allEnds l→1≤n∧n≤(topoIfs l r).length)∧(allEnds l).Nodup
theorem Laid.nil:Laid []:=⟨fun _ _ h=>by simp [allEnds] at h,by simp [allEnds]⟩
def addLink (l:List Lnk) (a b kind:Int):List Lnk:=
  if (topoIfs l a).length+1≤6∧(topoIfs l b).length+1≤6 then l ++ [⟨a,(topoIfs l a).length+1,b,(topoIfs l b).length+1,kind⟩] else l
theorem Laid.add {l:List Lnk} (h:Laid l) {a b:Int} (kind:Int) (hab:a≠b):Laid (addLink l a b kind):=by
 unfold addLink
 split
 case isFalse=>exact h
 case isTrue=>
  have hna:((topoIfs l a).length+1:Int) ∉ topoIfs l a:=fun hm=>by
   have h1:=(topoIfs_mem (l:=l) (out:=[])).1 hm;simp only [List.not_mem_nil,or_false] at h1;have:=(h.1 _ _ h1).2;omega
  have hnb:((topoIfs l b).length+1:Int) ∉ topoIfs l b:=fun hm=>by
   have h1:=(topoIfs_mem (l:=l) (out:=[])).1 hm;simp only [List.not_mem_nil,or_false] at h1;have:=(h.1 _ _ h1).2;omega
  have ea:(a,((topoIfs l a).length+1:Int)) ∉ allEnds l:=fun hm=>by have:=(h.1 _ _ hm).2;omega
  have eb:(b,((topoIfs l b).length+1:Int)) ∉ allEnds l:=fun hm=>by have:=(h.1 _ _ hm).2;omega
  have la:(topoIfs (l ++ [⟨a,(topoIfs l a).length+1,b,(topoIfs l b).length+1,kind⟩]) a).length=(topoIfs l a).length+1:=by
   rw [topoIfs_app];unfold ifStep;simp only [beq_self_eq_true,if_true];rw [if_neg (by simpa using fun e=>hab e.symm)];exact insInt_new hna
  have lb:(topoIfs (l ++ [⟨a,(topoIfs l a).length+1,b,(topoIfs l b).length+1,kind⟩]) b).length=(topoIfs l b).length+1:=by
   rw [topoIfs_app];unfold ifStep;simp only [beq_self_eq_true,if_true];rw [if_neg (by simpa using hab)];exact insInt_new hnb
  refine⟨fun r n hm=>?_,?_⟩
  ·
   rw [allEnds_app,List.mem_append] at hm
   rcases hm with hm | hm
   ·
    have h1:=h.1 r n hm;have h2:=ifStep_more r (topoIfs l r) ⟨a,(topoIfs l a).length+1,b,(topoIfs l b).length+1,kind⟩;rw [topoIfs_app];omega
   simp only [allEnds,List.flatMap_cons,List.flatMap_nil,List.append_nil,lnkEnds,List.mem_cons,List.not_mem_nil,or_false,Prod.mk.injEq] at hm
   rcases hm with ⟨rfl,rfl⟩ | ⟨rfl,rfl⟩
   ·
    rw [la];omega
   rw [lb];omega
  rw [allEnds_app,List.nodup_append];refine⟨h.2,?_,fun p hp q hq e=>?_⟩
  ·
   simp [allEnds,lnkEnds,hab]
  subst e;simp only [allEnds,List.flatMap_cons,List.flatMap_nil,List.append_nil,lnkEnds,List.mem_cons,List.not_mem_nil,or_false] at hq
  rcases hq with rfl | rfl
  ·
   exact ea hp
  exact eb hp
theorem allEnds_filter (p:Lnk→Bool):∀ (l:List Lnk),(allEnds (l.filter p)).Sublist (allEnds l)
 | [] => .refl _
 | x :: l => by
  cases h:p x
  ·
   rw [List.filter_cons_of_neg (by simp [h])];exact(allEnds_filter p l).trans (List.sublist_append_right _ _)
  rw [List.filter_cons_of_pos h];exact(List.Sublist.refl _).append (allEnds_filter p l)
theorem Laid.filter {l:List Lnk} (h:Laid l) (p:Lnk→Bool):(allEnds (l.filter p)).Nodup:=h.2.sublist (allEnds_filter p l)
def lnkOk (t:Topo) (x:Lnk):Bool:=
  isAs t x.a && isAs t x.b && decide (x.a<x.b) && inR x.ai 1 6 && inR x.bi 1 6 &&
    (if x.kind == 1 then (asAt t x.a).core && (asAt t x.b).core else if x.kind == 2 then ((asAt t x.a).isd == (asAt t x.b).isd) && !(asAt t x.b).core else (x.kind == 3) && !(asAt t x.a).core && !(asAt t x.b).core)
structure TopoOk (t : Topo) : Prop where
  n1:1≤t.ases.length
  n8:t.ases.length≤8
  ok:∀ x∈t.links,lnkOk t x=true
  ends:(allEnds t.links).Nodup
  few:t.links.length≤64
theorem addLink_len (l:List Lnk) (a b k:Int):(addLink l a b k).length≤l.length+1:=by unfold addLink;split <;> simp
theorem TopoOk.filter {al:List ASd} {l:List Lnk} (h:Laid l) (n1:1≤al.length) (n8:al.length≤8) (hl:l.length≤64):TopoOk ⟨al,l.filter (lnkOk ⟨al,l⟩)⟩ where
 n1:=n1
 n8:=n8
 ok:=fun x hx=>by
  have h1:=(List.mem_filter.1 hx).2;exact h1
 ends:=h.filter _
 few:=Ad (List.length_filter_le _ _) hl
theorem ifs_end {l:List Lnk} {r n:Int}:n∈topoIfs l r↔∃ x∈l,(x.a=r∧x.ai=n)∨(x.b=r∧x.bi=n):=by
 have h1:=topoIfs_mem (l:=l) (out:=[]) (r:=r) (n:=n);simp only [List.not_mem_nil,or_false] at h1;unfold topoIfs;rw [h1];unfold allEnds lnkEnds;simp only [List.mem_flatMap,List.mem_cons,List.not_mem_nil,or_false,Prod.mk.injEq]
 constructor
 ·
  rintro ⟨x,hx,⟨e1,e2⟩ | ⟨e1,e2⟩⟩
  ·
   exact⟨x,hx,.inl ⟨e1.symm,e2.symm⟩⟩
  exact⟨x,hx,.inr ⟨e1.symm,e2.symm⟩⟩
 rintro ⟨x,hx,⟨e1,e2⟩ | ⟨e1,e2⟩⟩
 ·
  exact⟨x,hx,.inl ⟨e1.symm,e2.symm⟩⟩
 exact⟨x,hx,.inr ⟨e1.symm,e2.symm⟩⟩
theorem usesIf_iff {x:Lnk} {r d:Int}:usesIf x r d=true↔(x.a=r∧x.ai=d)∨(x.b=r∧x.bi=d):=by simp [usesIf]
theorem linkFrom_hit {r d:Int}:∀ {l:List Lnk} {k:Nat},(∃ x∈l,usesIf x r d=true)→∃ (j:Nat) (x:Lnk),linkFrom r d k l=((k+j:Nat):Int)∧l[j]?=some x∧usesIf x r d=true
 | [], k, h => by obtain ⟨x, hx, _⟩ := h; cases hx
 | y :: l, k, h => by
  cases hy:usesIf y r d
  ·
   obtain⟨x,hx,hu⟩:=h
   rcases List.mem_cons.1 hx with rfl | hx
   ·
    rw [hy] at hu;cases hu
   obtain⟨j,z,h1,h2,h3⟩:=linkFrom_hit (k:=k+1) ⟨x,hx,hu⟩;refine⟨j+1,z,?_,by simpa using h2,h3⟩;unfold linkFrom;rw [hy,h1]
   simp;omega
  exact⟨0,y,by unfold linkFrom;rw [hy];simp,by simp,hy⟩
theorem linkIdx_hit {l:List Lnk} {r d:Int} (h:∃ x∈l,usesIf x r d=true):∃ (j:Nat) (x:Lnk),linkIdx l r d=(j:Int)∧l[j]?=some x∧usesIf x r d=true:=by
 obtain⟨j,x,h1,h2,h3⟩:=linkFrom_hit (k:=0) h;exact⟨j,x,by unfold linkIdx;rw [h1];simp,h2,h3⟩
theorem lnkOk_of {t:Topo} {x:Lnk} (h:lnkOk t x=true):isAs t x.a=true∧isAs t x.b=true∧x.a<x.b∧(1≤x.ai∧x.ai≤6)∧(1≤x.bi∧x.bi≤6):=by
 unfold lnkOk at h;simp only [Bool.and_eq_true,decide_eq_true_eq] at h;obtain⟨⟨⟨⟨⟨h1,h2⟩,h3⟩,h4⟩,h5⟩,_⟩:=h;exact⟨h1,h2,h3,Bk.1 h4,Bk.1 h5⟩
theorem TopoOk.far {t:Topo} (h:TopoOk t) {r d:Int} (hd:d∈topoIfs t.links r) :
  ∃ x∈t.links,(x.a=r∧x.ai=d∧remEnd t r d=(x.b,x.bi))∨(x.b=r∧x.bi=d∧remEnd t r d=(x.a,x.ai)):=by
 obtain⟨y,hy,he⟩:=ifs_end.1 hd;obtain⟨j,x,h1,h2,h3⟩:=linkIdx_hit (l:=t.links) (r:=r) (d:=d) ⟨y,hy,usesIf_iff.2 he⟩;have hm:x∈t.links:=List.mem_of_getElem? h2;refine⟨x,hm,?_⟩
 have hr:remEnd t r d=if (x.a == r) && (x.ai == d) then (x.b,x.bi) else (x.a,x.ai):=by
  unfold remEnd;rw [if_neg (by omega),h1,Int.toNat_natCast,h2]
 obtain⟨_,_,hab,_⟩:=lnkOk_of (h.ok x hm)
 rcases usesIf_iff.1 h3 with ⟨e1,e2⟩ | ⟨e1,e2⟩
 ·
  exact .inl ⟨e1,e2,by rw [hr];simp [e1,e2]⟩
 refine .inr ⟨e1,e2,?_⟩;rw [hr,if_neg];have:x.a≠r:=by omega
 simp [this]
theorem TopoOk.door {t:Topo} (h:TopoOk t) {r d:Int} (hd:d∈topoIfs t.links r):isAs t r=true∧(1≤d∧d≤6)∧isAs t (remEnd t r d).1=true∧(1≤(remEnd t r d).2∧(remEnd t r d).2≤6)∧(remEnd t r d).1≠r:=by
 obtain⟨x,hx,hh⟩:=h.far hd;obtain⟨h1,h2,h3,h4,h5⟩:=lnkOk_of (h.ok x hx)
 rcases hh with ⟨rfl,rfl,e⟩ | ⟨rfl,rfl,e⟩
 ·
  rw [e];exact⟨h1,h4,h2,h5,by show x.b≠x.a;omega⟩
 rw [e];exact⟨h2,h5,h1,h4,by show x.a≠x.b;omega⟩
theorem isAs_bd {t:Topo} (h:TopoOk t) {r:Int} (hr:isAs t r=true):0≤r∧r≤7:=by
 have:=Bk.1 hr;have:=h.n8;omega
def ifsKind (t:Topo) (r k:Int):List Int:=(topoIfs t.links r).filter (fun d=>ifKind t r d == k)
theorem ifsKind_mem {t:Topo} {r k d:Int} (h:d∈ifsKind t r k):d∈topoIfs t.links r∧ifKind t r d=k:=by
 obtain⟨h1,h2⟩:=List.mem_filter.1 h;exact⟨h1,by simpa using h2⟩
end
section
def chainAdd (b:Int) (l:List Int):Int:=l.foldl addMod b
theorem chainAdd_snoc {b:Int} {l:List Int} {k:Nat} (hk:k<l.length):chainAdd b (l.take (k+1))=addMod (chainAdd b (l.take k)) l[k]:=by
 unfold chainAdd;rw [List.take_succ_eq_append_getElem hk,List.foldl_append];rfl
theorem sub_add {b s:Int} (hb:isRes b=true) (hs:isRes s=true):subMod (addMod b s) s=b:=by
 have h:=addMod_res b s;rw [subMod_yes h hs,addMod_yes hb hs];obtain⟨a1,a2⟩:=isRes_true.1 hb;obtain⟨a3,a4⟩:=isRes_true.1 hs;omega
theorem chainAdd_res (b:Int) (l:List Int) (hb:isRes b=true):isRes (chainAdd b l)=true:=by
 unfold chainAdd
 induction l generalizing b with
 | nil => exact hb
 | cons x l ih => exact ih _ (addMod_res b x)
theorem digStep_bd (d x:Int):0≤digStep d x∧digStep d x<2147483647:=by unfold digStep;omega
end
section
open Go.RowKit
structure Seg where
  ts:Int
  beta:Int
  hops:List Hop
  deriving DecidableEq
def betaAt (s:Seg) (i:Int):Int:=if inR i 0 s.hops.length then chainAdd s.beta ((s.hops.take i.toNat).map (·.mac)) else 0
def sealHop (key ts beta:Int) (h:Hop):Hop:={ h with mac:=hopMac key ts beta h }
def asns (l:List Hop):List Int:=l.map (·.asn)
inductive Grown (t : Topo) (kind ts beta : Int) : Int → Int → List Hop → Prop
  | start (r : Int) : isAs t r = true → (asAt t r).core = true → Grown t kind ts beta r 0 []
  | step (r inn out e : Int) (hs : List Hop) : Grown t kind ts beta r inn hs → out ∈ ifsKind t r kind → hasI (asns hs) (remEnd t r out).1 = false → inn ≠ out → ts + 50 ≤ e → e ≤ ts + 99 →
      Grown t kind ts beta (remEnd t r out).1 (remEnd t r out).2 (hs ++ [sealHop (asAt t r).key ts (betaAt ⟨ts,beta,hs⟩ hs.length) ⟨r,inn,out,e,0⟩])
structure SegDrawn (t : Topo) (kind : Int) (s : Seg) : Prop where
  ts:0≤s.ts∧s.ts≤49
  beta:0≤s.beta∧s.beta≤999999
  len:s.hops.length≤5
  how:(∃ r inn,Grown t kind s.ts s.beta r inn s.hops)∨s.hops=[]∨∃ r inn e hs,Grown t kind s.ts s.beta r inn hs∧inn≠0∧s.ts+50≤e∧e≤s.ts+99 ∧
    s.hops=hs ++ [sealHop (asAt t r).key s.ts (betaAt ⟨s.ts,s.beta,hs⟩ hs.length) ⟨r,inn,0,e,0⟩]
theorem betaAt_pre {ts beta:Int} {hs ms:List Hop} {k:Nat} (hk:k≤hs.length):betaAt ⟨ts,beta,hs ++ ms⟩ k=betaAt ⟨ts,beta,hs⟩ k:=by
 unfold betaAt;have h1:inR (k:Int) 0 ((hs ++ ms).length:Nat)=true:=Bk.2 (by simp;omega);have h2:inR (k:Int) 0 (hs.length:Nat)=true:=Bk.2 (by omega);simp only [h1,h2,if_true,Int.toNat_natCast];rw [List.take_append_of_le_length hk]
theorem betaAt_nat {s:Seg} {k:Nat} (hk:k≤s.hops.length):betaAt s k=chainAdd s.beta ((s.hops.take k).map (·.mac)):=by
 unfold betaAt;rw [if_pos (Bk.2 (by omega)),Int.toNat_natCast]
theorem hopMac_res (k ts b:Int) (h:Hop):isRes (hopMac k ts b h)=true:=by
 have h1:∀ (l:List Int) (d:Int),0≤d∧d<2147483647→0≤l.foldl digStep d∧l.foldl digStep d<2147483647:=by
  intro l
  induction l with
  | nil => exact fun d h => h
  | cons x l ih => exact fun d _ => ih _ (digStep_bd d x)
 have h2:=h1 ([k] ++ [ts,b,h.asn,h.ing,h.eg,h.exp] ++ [k]) 7 (by omega);exact Bk.2 (by unfold hopMac macOf digest;omega)
theorem seal_ok {t:Topo} (T:TopoOk t) {ts b:Int} {h:Hop} (ha:isAs t h.asn=true) (hi:0≤h.ing∧h.ing≤6) (ho:0≤h.eg∧h.eg≤6) (hne:h.ing≠h.eg) (he:0≤h.exp∧h.exp≤1000000) :
  verHop t ts b (sealHop (asAt t h.asn).key ts b h)=true:=by
 obtain⟨h0,h7⟩:=isAs_bd T ha;unfold verHop validHop sealHop;simp only [Bk.2 ⟨h0,h7⟩,Bk.2 hi,Bk.2 ho,Bk.2 he,hopMac_res,ha,Bool.true_and,Bool.and_true,Bool.and_eq_true,bne_iff_ne,ne_eq,beq_iff_eq];exact⟨hne,rfl⟩
def Sealed (t:Topo) (ts beta:Int) (hs:List Hop):Prop:=∀ (k:Nat) (hk:k<hs.length),verHop t ts (betaAt ⟨ts,beta,hs⟩ k) hs[k]=true
theorem Sealed.snoc {t:Topo} {ts beta:Int} {hs:List Hop} (S:Sealed t ts beta hs) {x:Hop} (hx:verHop t ts (betaAt ⟨ts,beta,hs⟩ hs.length) x=true):Sealed t ts beta (hs ++ [x]):=by
 intro k hk;rw [betaAt_pre (by simp at hk;omega)]
 rcases Nat.lt_or_ge k hs.length with h1 | h1
 ·
  rw [List.getElem_append_left h1];exact S k h1
 obtain rfl:k=hs.length:=by simp at hk;omega
 simpa using hx
theorem Sealed.nil (t:Topo) (ts beta:Int):Sealed t ts beta []:=fun _ hk=>by cases hk
theorem Grown.good {t:Topo} (T:TopoOk t) {kind ts beta:Int} (h0:0≤ts∧ts≤49) {r inn:Int} {hs:List Hop} (h:Grown t kind ts beta r inn hs) :
  isAs t r=true∧(0≤inn∧inn≤6)∧Sealed t ts beta hs:=by
 induction h with
 | start r h1 _ => exact ⟨h1, by omega, Sealed.nil _ _ _⟩
 | step r inn out e hs _ hout _ hne he1 he2 ih =>
  obtain⟨i1,i2,i3⟩:=ih;obtain⟨_,d2,d3,d4,_⟩:=T.door (ifsKind_mem hout).1;exact⟨d3,by omega,i3.snoc (seal_ok T (h:=⟨r,inn,out,e,0⟩) i1 i2 (by simp only;omega) hne (by simp only;omega))⟩
theorem SegDrawn.ver {t:Topo} (T:TopoOk t) {kind:Int} {s:Seg} (h:SegDrawn t kind s):Sealed t s.ts s.beta s.hops:=by
 rcases h.how with ⟨r,inn,g⟩ | h1 | ⟨r,inn,e,hs,g,hne,he1,he2,h1⟩
 ·
  exact(g.good T h.ts).2.2
 ·
  rw [h1];exact Sealed.nil _ _ _
 obtain⟨i1,i2,i3⟩:=g.good T h.ts;rw [h1];exact i3.snoc (seal_ok T (h:=⟨r,inn,0,e,0⟩) i1 i2 (by simp only;omega) hne (by have:=h.ts;simp only;omega))
theorem isRes_of {n:Int} (h0:0≤n) (h1:n≤999999):isRes n=true:=Bk.2 (by omega)
end
abbrev Bz := @hopAt_at
abbrev Cf := @partAt_at
abbrev Ch := @allTo_snoc
end Go.Proofs.YteodlcpeoaggbaaGreat
