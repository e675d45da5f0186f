/- What these laws need: FnOld, FnWalks: Contracts of the tests of packets, program and reference. -/
import Derived.Test.YteodlcpeoaggbaaGreatKV15
namespace Go.Proofs.YteodlcpeoaggbaaGreat
section
open Go.ChangeShapes Go.WideShapes Go.ChangeAt Go.RowKit Go.Deep
set_option maxRecDepth 100000
set_option maxHeartbeats 16000000
theorem hopsEnc_len {l:List Hop} (h:¬ l.length≤8):hopsEnc l=false:=by unfold hopsEnc;rw [decide_eq_false h];rfl
theorem hopsEnc_no {l:List Hop} {k:Nat} (hk:k<l.length) (h:validHop l[k]=false):hopsEnc l=false:=by
 unfold hopsEnc;rw [show l.all validHop=false from List.all_eq_false.2 ⟨l[k],List.getElem_mem _,by rw [h];decide⟩];simp
theorem hopsEnc_yes {l:List Hop} (h:l.length≤8) (h2:(l.take l.length).all validHop=true):hopsEnc l=true:=by
 unfold hopsEnc;rw [List.take_length] at h2;rw [h2,decide_eq_true h];rfl
theorem all_snocB {α:Type} {p:α→Bool} {l:List α} {k:Nat} (hk:k<l.length) (h:(l.take k).all p=true) (h2:p l[k]=true):(l.take (k+1)).all p=true:=by
 rw [List.take_succ_eq_append_getElem hk,List.all_append,h];simp [h2]
theorem encPath_len {p:Pth} (h:¬ p.parts.length≤3):encPath p=false:=by unfold encPath;rw [decide_eq_false h];rfl
theorem encPath_no {p:Pth} {k:Nat} (hk:k<p.parts.length) (h:encPart p.parts[k]=false):encPath p=false:=by
 unfold encPath;rw [show p.parts.all encPart=false from List.all_eq_false.2 ⟨p.parts[k],List.getElem_mem _,by rw [h];decide⟩];simp
theorem encPath_yes {p:Pth} (h:p.parts.length≤3) (h2:(p.parts.take p.parts.length).all encPart=true):encPath p=true:=by
 unfold encPath;rw [List.take_length] at h2;rw [h2,decide_eq_true h];rfl
def pktTail (x:Pkt):Bool:=inR x.src 0 7 && inR x.dst 0 7 && inR x.rid 0 100000 && inR x.seq 0 100000 && decide (x.pay.length≤40)
def partsFull (l:List Part):Bool:=l.all (fun y=>decide (0<y.hops.length))
theorem validPkt_eq (x:Pkt):validPkt x=(inR x.kind 1 3 && encPath x.path && hasHop x && isRes x.beta && partsFull x.path.parts && pktTail x):=by
 unfold validPkt partsFull pktTail;simp only [Bool.and_assoc]
theorem enc_curAs {x:Pkt} (he:encPath x.path=true):hasHop x=decide (0≤curAs x):=by
 cases hh:hasHop x
 ·
  have:curAs x = -1:=by unfold curAs;rw [hh];rfl
  rw [this];rfl
 have e1:curAs x=(curHop x).asn:=by unfold curAs;rw [hh];rfl
 obtain⟨⟨p0,p1,p2⟩,q0,q1,q2⟩:=Cc hh
 have h1:encPart (curPart x)=true:=by
  unfold encPath at he;simp only [Bool.and_eq_true,List.all_eq_true] at he;rw [curPart_at p2];exact he.2 _ (List.getElem_mem _)
 have h2:validHop (curHop x)=true:=by
  unfold encPart hopsEnc at h1;simp only [Bool.and_eq_true,List.all_eq_true] at h1;rw [curHop_at q2];exact h1.2.2 _ (List.getElem_mem _)
 unfold validHop at h2;simp only [Bool.and_eq_true] at h2;have:=Bk.1 h2.1.1.1.1.1;rw [e1,decide_eq_true (by omega)]
theorem partsFull_no {l:List Part} {k:Nat} (hk:k<l.length) (h:¬ 0<l[k].hops.length):partsFull l=false:=List.all_eq_false.2 ⟨l[k],List.getElem_mem _,by rw [decide_eq_false h];decide⟩
theorem i_hopsEncodable (l:List Hop) (v:Value) (w:World) (hv:RdS Hop.rep w v l) :
  Calls Tryz.prog 198 #[v] w fun e w'=>e=.returned (.bool (hopsEnc l))∧Ext w w':=by
 obtain⟨o,cap,rfl,hsm⟩:=hv.shape
 by_cases h8:l.length≤8
 ·
  have HY:=Ac (fun h=>hopsEnc_yes (l:=l) h8 h);have h8i:(l.length:Int)≤8:=by omega
  have HN:=Ac (fun(k:Nat)=>hopsEnc_no (l:=l) (k:=k))
  go_enter Tryz.func198,Tryz.ntmps198
  go_wp2
  go_loopg [10] l.length (fun gk i wr=>∃ k:Nat,gk+k=l.length∧i=.int .i64 k∧Hid ((l.take k).all validHop=true)∧Ext w wr)
  case atStart=>exact⟨0,rfl,rfl,Ac rfl,Ab _⟩
  case round=>
   obtain⟨k,hgk,rfl,HK,hx⟩:=hrel
   by_cases hlt:k<l.length
   ·
    have HG:=Ac (show gk - 1+(k+1)=l.length∧gk - 1<gk by omega);clear hgk;obtain⟨b,off,rfl,hc⟩:=Ca (hv.ext hx) k hlt;have h4:(k:Int)<(l.length:Int):=by omega
    obtain⟨hx1,HB1⟩:=ea1 wr (.cells #[.int .i64 l[k].asn,.int .i64 l[k].ing,.int .i64 l[k].eg,.int .i64 l[k].exp,.int .i64 l[k].mac] 103);replace HB1:=Ac HB1;have cf1:=blk5 HB1.out;have cf2:=Av hx1 hc
    go_wp2_with fail
    refine(i_ValidHop l[k] _).mono ?_;rintro e w1 ⟨rfl,hz1⟩
    cases b1:validHop l[k]
    ·
     have HE:=Ac (HN.out k hlt b1)
     try clear cf1
     try clear cf2
     have cf3:=blk5 (Aa hz1 HB1.out);have cf4:=Av (hx1.t hz1) hc
     go_wp2_with fail
     go_ret
     exact⟨Ah HE.out.symm,((hx.t hx1).t hz1)⟩
    have HK2:=Ac (all_snocB hlt HK.out b1)
    try clear cf1
    try clear cf2
    have cf5:=blk5 (Aa hz1 HB1.out);have cf6:=Av (hx1.t hz1) hc
    go_wp2_with fail
    go_roundg (gk - 1)
    case measure=>exact HG.out.2
    case rel=>exact⟨k+1,HG.out.1,by go_num,HK2,((hx.t hx1).t hz1)⟩
   obtain rfl:k=l.length:=by omega
   have HE:=Ac (HY.out HK.out)
   go_wp2_with fail
   go_ret
   exact⟨Ah HE.out.symm,hx⟩
 have h8i:¬ (l.length:Int)≤8:=by omega
 have HE:=Ac (hopsEnc_len h8)
 go_enter Tryz.func198,Tryz.ntmps198
 go_wp2_with fail
 go_ret
 exact⟨Ah HE.out.symm,(Ab _)⟩
theorem s_Encodable (ts beta:Int) (l:List Hop) (v:Value) (w:World) (hv:RdS Hop.rep w v l) :
  Calls Tryz.prog 182 #[.agg #[.int .i64 ts,.int .i64 beta,v]] w fun e w'=>e=.returned (.bool (inR ts 0 1000000 && isRes beta && hopsEnc l))∧Ext w w':=by
 obtain⟨o,cap,rfl,hsm⟩:=hv.shape;obtain⟨hx0,HB0⟩:=ea1 w (.cells #[.int .i64 ts,.int .i64 beta,.slice o l.length cap] 116);replace HB0:=Ac HB0
 go_enter Tryz.func182,Tryz.ntmps182
 have cf1:=blk3 HB0.out
 go_wp2_with fail
 refine(s_l1In _ _ _ _).mono ?_;rintro e _ ⟨rfl,rfl⟩
 cases bb:inR ts 0 1000000
 ·
  have HE:=Ac (show(inR ts 0 1000000 && isRes beta && hopsEnc l)=false by rw [bb];rfl)
  go_wp2_with fail
  go_ret
  exact⟨Ah HE.out.symm,hx0⟩
 have B1:=Ac bb;clear bb
 go_wp2_with fail
 refine(s_l3Ok _ _).mono ?_;rintro e _ ⟨rfl,rfl⟩
 cases bb:isRes beta
 ·
  have HE:=Ac (show(inR ts 0 1000000 && isRes beta && hopsEnc l)=false by rw [bb];simp)
  go_wp2_with fail
  go_ret
  exact⟨Ah HE.out.symm,hx0⟩
 have B2:=Ac bb;clear bb
 by_cases h8:l.length≤8
 ·
  have h8q:(l.length:Int)≤8:=by omega
  go_wp2_with fail
  have HY:=Ac (fun h=>hopsEnc_yes (l:=l) h8 h);have h8i:(l.length:Int)≤8:=by omega
  have HN:=Ac (fun(k:Nat)=>hopsEnc_no (l:=l) (k:=k))
  go_loopg [3] l.length (fun gk i wr=>∃ k:Nat,gk+k=l.length∧i=.int .i64 k∧Hid ((l.take k).all validHop=true)∧Ext (w.alloc (.cells #[.int .i64 ts,.int .i64 beta,.slice o l.length cap] 116)) wr)
  case atStart=>exact⟨0,rfl,rfl,Ac rfl,Ab _⟩
  case round=>
   obtain⟨k,hgk,rfl,HK,hx⟩:=hrel
   by_cases hlt:k<l.length
   ·
    have HG:=Ac (show gk - 1+(k+1)=l.length∧gk - 1<gk by omega);clear hgk;obtain⟨b,off,rfl,hc⟩:=Ca (hv.ext (hx0.t hx)) k hlt;have h4:(k:Int)<(l.length:Int):=by omega
    try clear cf1
    have cf2:=blk3 (Aa hx HB0.out)
    go_wp2_with fail
    refine(s_ValidHop l[k] _).mono ?_;rintro e w3 ⟨rfl,hz3⟩
    cases b1:validHop l[k]
    ·
     have HE:=Ac (show(inR ts 0 1000000 && isRes beta && hopsEnc l)=false by rw [HN.out k hlt b1];simp)
     try clear cf2
     have cf3:=blk3 (Aa (hx.t hz3) HB0.out);have cf4:=Av hz3 hc
     go_wp2_with fail
     go_ret
     exact⟨Ah HE.out.symm,((hx0.t hx).t hz3)⟩
    have HK2:=Ac (all_snocB hlt HK.out b1)
    try clear cf2
    have cf5:=blk3 (Aa (hx.t hz3) HB0.out);have cf6:=Av hz3 hc
    go_wp2_with fail
    go_roundg (gk - 1)
    case measure=>exact HG.out.2
    case rel=>exact⟨k+1,HG.out.1,by go_num,HK2,(hx.t hz3)⟩
   obtain rfl:k=l.length:=by omega
   have HE:=Ac (show(inR ts 0 1000000 && isRes beta && hopsEnc l)=true by rw [HY.out HK.out,B1.out,B2.out];rfl)
   try clear cf1
   have cf7:=blk3 (Aa hx HB0.out)
   go_wp2_with fail
   go_ret
   exact⟨Ah HE.out.symm,(hx0.t hx)⟩
 have h8i:¬ (l.length:Int)≤8:=by omega
 have HE:=Ac (show(inR ts 0 1000000 && isRes beta && hopsEnc l)=false by rw [hopsEnc_len h8];simp)
 go_wp2_with fail
 go_ret
 exact⟨Ah HE.out.symm,hx0⟩
theorem i_EncodablePath (p:Pth) (v:Value) (w:World) (r:RdS Part.rep w v p.parts) :
  Calls Tryz.prog 176 #[.agg #[v]] w fun e w'=>e=.returned (.bool (encPath p))∧Ext w w':=by
 obtain⟨o,cap,rfl,hsm⟩:=r.shape;obtain⟨hx0,HB0⟩:=ea1 w (.cells #[.slice o p.parts.length cap] 30);replace HB0:=Ac HB0
 by_cases h3:p.parts.length≤3
 ·
  have HY:=Ac (fun h=>encPath_yes (p:=p) h3 h);have h3i:(p.parts.length:Int)≤3:=by omega
  have HN:=Ac (fun(k:Nat)=>encPath_no (p:=p) (k:=k))
  go_enter Tryz.func176,Tryz.ntmps176
  have cf1:=blk1 HB0.out
  go_wp2_with fail
  go_loopg [12] p.parts.length (fun gk i wr=>∃ k:Nat,gk+k=p.parts.length∧i=.int .i64 k∧Hid ((p.parts.take k).all encPart=true)∧Ext (w.alloc (.cells #[.slice o p.parts.length cap] 30)) wr)
  case atStart=>exact⟨0,rfl,rfl,Ac rfl,Ab _⟩
  case round=>
   obtain⟨k,hgk,rfl,HK,hx⟩:=hrel
   by_cases hlt:k<p.parts.length
   ·
    have HG:=Ac (show gk - 1+(k+1)=p.parts.length∧gk - 1<gk by omega);clear hgk;obtain⟨b,off,oh,ch,rfl,hc,hr⟩:=Bx (r.ext (hx0.t hx)) k hlt;have h4:(k:Int)<(p.parts.length:Int):=by omega
    try clear cf1
    have cf2:=blk1 (Aa hx HB0.out);obtain⟨hx1,HB1⟩:=ea1 wr (.cells #[.int .i64 p.parts[k].kind,.int .i64 p.parts[k].ts,.int .i64 p.parts[k].beta,.slice oh p.parts[k].hops.length ch] 99);replace HB1:=Ac HB1;have cf3:=blk1 (Aa (hx.t hx1) HB0.out);have cf4:=blk4 HB1.out;have cf5:=Ag hx1 hc
    go_wp2_with fail
    refine(i_InRange _ _ _ _).mono ?_;rintro e _ ⟨rfl,rfl⟩
    cases b1:inR p.parts[k].kind 1 4
    ·
     have HE:=Ac (HN.out k hlt (show encPart p.parts[k]=false by unfold encPart;rw [b1];rfl))
     go_wp2_with fail
     go_ret
     exact⟨Ah HE.out.symm,((hx0.t hx).t hx1)⟩
    go_wp2_with fail
    refine(i_InRange _ _ _ _).mono ?_;rintro e _ ⟨rfl,rfl⟩
    cases b2:inR p.parts[k].ts 0 1000000
    ·
     have HE:=Ac (HN.out k hlt (show encPart p.parts[k]=false by unfold encPart;rw [b2];simp))
     go_wp2_with fail
     go_ret
     exact⟨Ah HE.out.symm,((hx0.t hx).t hx1)⟩
    go_wp2_with fail
    refine(i_isResidue _ _).mono ?_;rintro e _ ⟨rfl,rfl⟩
    cases b3:isRes p.parts[k].beta
    ·
     have HE:=Ac (HN.out k hlt (show encPart p.parts[k]=false by unfold encPart;rw [b3];simp))
     go_wp2_with fail
     go_ret
     exact⟨Ah HE.out.symm,((hx0.t hx).t hx1)⟩
    go_wp2_with fail
    refine(i_hopsEncodable p.parts[k].hops _ _ (hr.ext hx1)).mono ?_;rintro e w4 ⟨rfl,hz4⟩
    cases b4:hopsEnc p.parts[k].hops
    ·
     have HE:=Ac (HN.out k hlt (show encPart p.parts[k]=false by unfold encPart;rw [b4];simp))
     try clear cf3
     try clear cf4
     try clear cf5
     have cf6:=blk1 (Aa ((hx.t hx1).t hz4) HB0.out);have cf7:=blk4 (Aa hz4 HB1.out);have cf8:=Ag (hx1.t hz4) hc
     go_wp2_with fail
     go_ret
     exact⟨Ah HE.out.symm,(((hx0.t hx).t hx1).t hz4)⟩
    have HK2:=Ac (all_snocB hlt HK.out (show encPart p.parts[k]=true by unfold encPart;rw [b1,b2,b3,b4];rfl))
    try clear cf3
    try clear cf4
    try clear cf5
    have cf9:=blk1 (Aa ((hx.t hx1).t hz4) HB0.out);have cf10:=blk4 (Aa hz4 HB1.out);have cf11:=Ag (hx1.t hz4) hc
    go_wp2_with fail
    go_roundg (gk - 1)
    case measure=>exact HG.out.2
    case rel=>exact⟨k+1,HG.out.1,by go_num,HK2,((hx.t hx1).t hz4)⟩
   obtain rfl:k=p.parts.length:=by omega
   have HE:=Ac (HY.out HK.out)
   try clear cf1
   have cf12:=blk1 (Aa hx HB0.out)
   go_wp2_with fail
   go_ret
   exact⟨Ah HE.out.symm,(hx0.t hx)⟩
 have h3i:¬ (p.parts.length:Int)≤3:=by omega
 have HE:=Ac (encPath_len h3)
 go_enter Tryz.func176,Tryz.ntmps176
 have cf13:=blk1 HB0.out
 go_wp2_with fail
 go_ret
 exact⟨Ah HE.out.symm,hx0⟩
theorem s_EncodablePath (p:Pth) (v:Value) (w:World) (r:RdS Part.rep w v p.parts) :
  Calls Tryz.prog 148 #[.agg #[v]] w fun e w'=>e=.returned (.bool (encPath p))∧Ext w w':=by
 obtain⟨o,cap,rfl,hsm⟩:=r.shape;obtain⟨hx0,HB0⟩:=ea1 w (.cells #[.slice o p.parts.length cap] 30);replace HB0:=Ac HB0
 by_cases h3:p.parts.length≤3
 ·
  have HY:=Ac (fun h=>encPath_yes (p:=p) h3 h);have h3i:(p.parts.length:Int)≤3:=by omega
  have HN:=Ac (fun(k:Nat)=>encPath_no (p:=p) (k:=k))
  go_enter Tryz.func148,Tryz.ntmps148
  have cf1:=blk1 HB0.out
  go_wp2_with fail
  go_loopg [3] p.parts.length (fun gk i wr=>∃ k:Nat,gk+k=p.parts.length∧i=.int .i64 k∧Hid ((p.parts.take k).all encPart=true)∧Ext (w.alloc (.cells #[.slice o p.parts.length cap] 30)) wr)
  case atStart=>exact⟨0,rfl,rfl,Ac rfl,Ab _⟩
  case round=>
   obtain⟨k,hgk,rfl,HK,hx⟩:=hrel
   by_cases hlt:k<p.parts.length
   ·
    have HG:=Ac (show gk - 1+(k+1)=p.parts.length∧gk - 1<gk by omega);clear hgk;obtain⟨b,off,oh,ch,rfl,hc,hr⟩:=Bx (r.ext (hx0.t hx)) k hlt;have h4:(k:Int)<(p.parts.length:Int):=by omega
    try clear cf1
    have cf2:=blk1 (Aa hx HB0.out);obtain⟨hx1,HB1⟩:=ea1 wr (.cells #[.int .i64 p.parts[k].kind,.int .i64 p.parts[k].ts,.int .i64 p.parts[k].beta,.slice oh p.parts[k].hops.length ch] 99);replace HB1:=Ac HB1;have cf3:=blk1 (Aa (hx.t hx1) HB0.out);have cf4:=blk4 HB1.out;have cf5:=Ag hx1 hc
    go_wp2_with fail
    refine(s_l1In _ _ _ _).mono ?_;rintro e _ ⟨rfl,rfl⟩
    cases b1:inR p.parts[k].kind 1 4
    ·
     have HE:=Ac (HN.out k hlt (show encPart p.parts[k]=false by unfold encPart;rw [b1];rfl))
     go_wp2_with fail
     go_ret
     exact⟨Ah HE.out.symm,((hx0.t hx).t hx1)⟩
    have HEQ:=Ac (show encPart p.parts[k]=(inR p.parts[k].ts 0 1000000 && isRes p.parts[k].beta && hopsEnc p.parts[k].hops) by unfold encPart;rw [b1];rfl)
    go_wp2_with fail
    refine(s_Encodable _ _ p.parts[k].hops _ _ (hr.ext hx1)).mono ?_;rintro e w2 ⟨rfl,hz2⟩;generalize (inR p.parts[k].ts 0 1000000 && isRes p.parts[k].beta && hopsEnc p.parts[k].hops)=en at *
    cases en
    ·
     have HE:=Ac (HN.out k hlt HEQ.out)
     try clear cf3
     try clear cf4
     try clear cf5
     have cf6:=blk1 (Aa ((hx.t hx1).t hz2) HB0.out);have cf7:=blk4 (Aa hz2 HB1.out);have cf8:=Ag (hx1.t hz2) hc
     go_wp2_with fail
     go_ret
     exact⟨Ah HE.out.symm,(((hx0.t hx).t hx1).t hz2)⟩
    have HK2:=Ac (all_snocB hlt HK.out HEQ.out)
    try clear cf3
    try clear cf4
    try clear cf5
    have cf9:=blk1 (Aa ((hx.t hx1).t hz2) HB0.out);have cf10:=blk4 (Aa hz2 HB1.out);have cf11:=Ag (hx1.t hz2) hc
    go_wp2_with fail
    go_roundg (gk - 1)
    case measure=>exact HG.out.2
    case rel=>exact⟨k+1,HG.out.1,by go_num,HK2,((hx.t hx1).t hz2)⟩
   obtain rfl:k=p.parts.length:=by omega
   have HE:=Ac (HY.out HK.out)
   try clear cf1
   have cf12:=blk1 (Aa hx HB0.out)
   go_wp2_with fail
   go_ret
   exact⟨Ah HE.out.symm,(hx0.t hx)⟩
 have h3i:¬ (p.parts.length:Int)≤3:=by omega
 have HE:=Ac (encPath_len h3)
 go_enter Tryz.func148,Tryz.ntmps148
 have cf13:=blk1 HB0.out
 go_wp2_with fail
 go_ret
 exact⟨Ah HE.out.symm,hx0⟩
theorem i_CurrentAS (x:Pkt) (v0 v1:Value) (w:World) (r0:RdS Part.rep w v0 x.path.parts) :
  Calls Tryz.prog 141 #[.agg #[.int .i64 x.kind,.int .i64 x.src,.int .i64 x.dst,v0,.int .i64 x.pi,.int .i64 x.hi,.int .i64 x.beta,.int .i64 x.rid,.int .i64 x.seq,v1]] w fun e w'=>e=.returned (.int .i64 (curAs x))∧Ext w w':=by
 obtain⟨o,cap,rfl,hsm⟩:=r0.shape;obtain⟨hx0,HB0⟩:=ea1 w (.cells #[.int .i64 x.kind,.int .i64 x.src,.int .i64 x.dst,.slice o x.path.parts.length cap,.int .i64 x.pi,.int .i64 x.hi,.int .i64 x.beta,.int .i64 x.rid,.int .i64 x.seq,v1] 35);replace HB0:=Ac HB0
 go_enter Tryz.func141,Tryz.ntmps141
 have cf1:=blk10 HB0.out
 go_wp2_with fail
 refine(i_hasHop x _ _ _ (r0.ext hx0)).mono ?_;rintro e w1 ⟨rfl,hz1⟩
 cases b1:hasHop x
 ·
  have HE:=Ac (show curAs x = -1 by unfold curAs;rw [b1];rfl)
  try clear cf1
  have cf2:=blk10 (Aa hz1 HB0.out)
  go_wp2_with fail
  go_ret
  exact⟨ret_int HE.out.symm,(hx0.t hz1)⟩
 obtain⟨⟨p0,p1,p2⟩,q0,q1,q2⟩:=Cc b1;have hcp:=curPart_at p2;obtain⟨b,off,oh,ch,rfl,hc,hr⟩:=Bx (r0.ext (hx0.t hz1)) x.pi.toNat p2;rw [← hcp] at hc hr;clear hcp;have hch:=curHop_at q2;obtain⟨b3,off3,rfl,ht⟩:=Ca hr x.hi.toNat q2;rw [← hch] at ht;have HE:=Ac (show curAs x=(curHop x).asn by unfold curAs;rw [b1];rfl);clear hch
 try clear cf1
 have cf3:=blk10 (Aa hz1 HB0.out)
 go_wp2_with fail
 refine Al (by kernel_rfl) (by kernel_rfl) ?_;have q0:=Bp cf3;have q10:=Bm hc;have q14:=Bv ht
 repeat (first | go_big_quiet_step ((fail)) | quiet_step ((fail)))
 refine wpQuiet_nil ?_;intro w2 hw2;have hz2:=Bc hw2;clear hw2 q0 q10 q14
 try clear cf3
 have cf4:=blk10 (Aa (hz1.t hz2) HB0.out);have cf5:=Ag hz2 hc;have cf6:=hopc_ext hz2 ht
 go_wp2_with fail
 go_ret
 exact⟨ret_int HE.out.symm,((hx0.t hz1).t hz2)⟩
theorem i_lastOfPart (x:Pkt) (v0 v1:Value) (w:World) (r0:RdS Part.rep w v0 x.path.parts) (hp0:0≤x.pi) (hp1:x.pi.toNat<x.path.parts.length) :
  Calls Tryz.prog 143 #[.agg #[.int .i64 x.kind,.int .i64 x.src,.int .i64 x.dst,v0,.int .i64 x.pi,.int .i64 x.hi,.int .i64 x.beta,.int .i64 x.rid,.int .i64 x.seq,v1]] w fun e w'=>e=.returned (.bool (lastOf x))∧Ext w w':=by
 obtain⟨o,cap,rfl,hsm⟩:=r0.shape;obtain⟨hx0,HB0⟩:=ea1 w (.cells #[.int .i64 x.kind,.int .i64 x.src,.int .i64 x.dst,.slice o x.path.parts.length cap,.int .i64 x.pi,.int .i64 x.hi,.int .i64 x.beta,.int .i64 x.rid,.int .i64 x.seq,v1] 35);replace HB0:=Ac HB0
 go_enter Tryz.func143,Tryz.ntmps143
 have hcp:=curPart_at hp1;obtain⟨b,off,oh,ch,rfl,hc,hr⟩:=Bx (r0.ext hx0) x.pi.toNat hp1;rw [← hcp] at hc hr;clear hcp;have hp2:x.pi<(x.path.parts.length:Int):=by omega
 obtain⟨oh',ch',eh,hhl⟩:=hr.shape;have hhl2:(curPart x).hops.length≤9223372036854775807:=hhl;clear eh hhl;have hw2:IntKind.i64.wrap (((curPart x).hops.length:Int) - 1)=((curPart x).hops.length:Int) - 1:=IntWalk.i64_in _ (by omega);have HE:=Ac (show lastOf x=(x.hi == ((curPart x).hops.length:Int) - 1) from rfl);have cf1:=blk10 HB0.out
 go_wp2_with fail
 refine Al (by kernel_rfl) (by kernel_rfl) ?_;have q0:=Bp cf1;have q10:=Bm hc
 repeat (first | go_big_quiet_step ((fail)) | quiet_step ((fail)))
 refine wpQuiet_nil ?_;intro w1 hw1;have hz1:=Bc hw1;clear hw1 q0 q10;clear hw2
 try clear cf1
 have cf2:=blk10 (Aa hz1 HB0.out);have cf3:=Ag hz1 hc
 go_wp2_with fail
 go_ret
 exact⟨Ah HE.out.symm,(hx0.t hz1)⟩
theorem i_AtLastHop (x:Pkt) (v0 v1:Value) (w:World) (r0:RdS Part.rep w v0 x.path.parts) :
  Calls Tryz.prog 144 #[.agg #[.int .i64 x.kind,.int .i64 x.src,.int .i64 x.dst,v0,.int .i64 x.pi,.int .i64 x.hi,.int .i64 x.beta,.int .i64 x.rid,.int .i64 x.seq,v1]] w fun e w'=>e=.returned (.bool (atLast x))∧Ext w w':=by
 obtain⟨o,cap,rfl,hsm⟩:=r0.shape;obtain⟨hx0,HB0⟩:=ea1 w (.cells #[.int .i64 x.kind,.int .i64 x.src,.int .i64 x.dst,.slice o x.path.parts.length cap,.int .i64 x.pi,.int .i64 x.hi,.int .i64 x.beta,.int .i64 x.rid,.int .i64 x.seq,v1] 35);replace HB0:=Ac HB0
 go_enter Tryz.func144,Tryz.ntmps144
 have cf1:=blk10 HB0.out
 go_wp2_with fail
 refine(i_CurrentAS x _ _ _ (r0.ext hx0)).mono ?_;rintro e w1 ⟨rfl,hz1⟩
 by_cases b0:0≤curAs x
 ·
  obtain⟨⟨p0,p1,p2⟩,q0,q1,q2⟩:=Cc (curAs_has (show ¬ curAs x<0 by omega))
  try clear cf1
  have cf2:=blk10 (Aa hz1 HB0.out)
  go_wp2_with fail
  refine(i_lastOfPart x _ _ _ (r0.ext (hx0.t hz1)) p0 p2).mono ?_;rintro e w2 ⟨rfl,hz2⟩
  cases b1:lastOf x
  ·
   have HE:=Ac (show atLast x=false by unfold atLast;rw [b1];simp)
   try clear cf2
   have cf3:=blk10 (Aa (hz1.t hz2) HB0.out)
   go_wp2_with fail
   go_ret
   exact⟨Ah HE.out.symm,((hx0.t hz1).t hz2)⟩
  have HE:=Ac (show atLast x=(x.pi == (x.path.parts.length:Int) - 1) by unfold atLast;rw [b1,decide_eq_true b0];rfl)
  try clear cf2
  have cf4:=blk10 (Aa (hz1.t hz2) HB0.out)
  go_wp2_with fail
  go_ret
  exact⟨Ah HE.out.symm,((hx0.t hz1).t hz2)⟩
 have HE:=Ac (show atLast x=false by unfold atLast;rw [decide_eq_false b0];rfl)
 try clear cf1
 have cf5:=blk10 (Aa hz1 HB0.out)
 go_wp2_with fail
 go_ret
 exact⟨Ah HE.out.symm,(hx0.t hz1)⟩
theorem s_AtLastHop (x:Pkt) (v0 v1:Value) (w:World) (r0:RdS Part.rep w v0 x.path.parts) :
  Calls Tryz.prog 104 #[.agg #[.int .i64 x.kind,.int .i64 x.src,.int .i64 x.dst,v0,.int .i64 x.pi,.int .i64 x.hi,.int .i64 x.beta,.int .i64 x.rid,.int .i64 x.seq,v1]] w fun e w'=>e=.returned (.bool (atLast x))∧Ext w w':=by
 obtain⟨o,cap,rfl,hsm⟩:=r0.shape;obtain⟨hx0,HB0⟩:=ea1 w (.cells #[.int .i64 x.kind,.int .i64 x.src,.int .i64 x.dst,.slice o x.path.parts.length cap,.int .i64 x.pi,.int .i64 x.hi,.int .i64 x.beta,.int .i64 x.rid,.int .i64 x.seq,v1] 35);replace HB0:=Ac HB0
 go_enter Tryz.func104,Tryz.ntmps104
 have hw1:IntKind.i64.wrap ((x.path.parts.length:Int) - 1)=(x.path.parts.length:Int) - 1:=IntWalk.i64_in _ (by omega)
 by_cases b0:0≤curAs x
 ·
  have d0:decide (0≤curAs x)=true:=decide_eq_true b0;obtain⟨⟨p0,p1,p2⟩,q0,q1,q2⟩:=Cc (curAs_has (show ¬ curAs x<0 by omega));have hcp:=curPart_at p2;obtain⟨b,off,oh,ch,rfl,hc,hr⟩:=Bx (r0.ext hx0) x.pi.toNat p2;rw [← hcp] at hc hr;clear hcp;obtain⟨oh',ch',eh,hhl⟩:=hr.shape;have hhl2:(curPart x).hops.length≤9223372036854775807:=hhl;clear eh hhl;have hw2:IntKind.i64.wrap (((curPart x).hops.length:Int) - 1)=((curPart x).hops.length:Int) - 1:=IntWalk.i64_in _ (by omega)
  cases b1:(x.pi == (x.path.parts.length:Int) - 1)
  ·
   have HE:=Ac (show atLast x=false by unfold atLast;rw [b1];simp);have cf1:=blk10 HB0.out
   go_wp2_with fail
   refine Al (by kernel_rfl) (by kernel_rfl) ?_;have q0:=Bp cf1;have q10:=Bm hc
   repeat (first | go_big_quiet_step (((first | (go_at_call 100;exact Ai (s_CurrentAS x _ _ _ ((r0.ext hx0).ext (ExtW.h _))))))) | quiet_step (((first | (go_at_call 100;exact Ai (s_CurrentAS x _ _ _ ((r0.ext hx0).ext (ExtW.h _))))))))
   refine wpQuiet_nil ?_;intro w1 hw1;have hz1:=Bc hw1;clear hw1 q0 q10;clear hw1 hw2
   try clear cf1
   have cf2:=blk10 (Aa hz1 HB0.out);have cf3:=Ag hz1 hc
   go_wp2_with fail
   go_ret
   exact⟨Ah HE.out.symm,(hx0.t hz1)⟩
  have HE:=Ac (show atLast x=(x.hi == ((curPart x).hops.length:Int) - 1) by unfold atLast lastOf;rw [b1,decide_eq_true b0];simp);have cf4:=blk10 HB0.out
  go_wp2_with fail
  refine Al (by kernel_rfl) (by kernel_rfl) ?_;have q0:=Bp cf4;have q10:=Bm hc
  repeat (first | go_big_quiet_step (((first | (go_at_call 100;exact Ai (s_CurrentAS x _ _ _ ((r0.ext hx0).ext (ExtW.h _))))))) | quiet_step (((first | (go_at_call 100;exact Ai (s_CurrentAS x _ _ _ ((r0.ext hx0).ext (ExtW.h _))))))))
  refine wpQuiet_nil ?_;intro w2 hw2;have hz2:=Bc hw2;clear hw2 q0 q10;clear hw1 hw2
  try clear cf4
  have cf5:=blk10 (Aa hz2 HB0.out);have cf6:=Ag hz2 hc
  go_wp2_with fail
  go_ret
  exact⟨Ah HE.out.symm,(hx0.t hz2)⟩
 have d0:decide (0≤curAs x)=false:=decide_eq_false b0;have HE:=Ac (show atLast x=false by unfold atLast;rw [decide_eq_false b0];rfl);have cf7:=blk10 HB0.out
 go_wp2_with fail
 refine Al (by kernel_rfl) (by kernel_rfl) ?_;have q0:=Bp cf7
 repeat (first | go_big_quiet_step (((first | (go_at_call 100;exact Ai (s_CurrentAS x _ _ _ ((r0.ext hx0).ext (ExtW.h _))))))) | quiet_step (((first | (go_at_call 100;exact Ai (s_CurrentAS x _ _ _ ((r0.ext hx0).ext (ExtW.h _))))))))
 refine wpQuiet_nil ?_;intro w3 hw3;have hz3:=Bc hw3;clear hw3 q0;clear hw1
 try clear cf7
 have cf8:=blk10 (Aa hz3 HB0.out)
 go_wp2_with fail
 go_ret
 exact⟨Ah HE.out.symm,(hx0.t hz3)⟩
theorem i_ValidPacket (x:Pkt) (v0 v1:Value) (w:World) (r0:RdS Part.rep w v0 x.path.parts) (r1:RdS Rep.byte w v1 x.pay) :
  Calls Tryz.prog 140 #[.agg #[.int .i64 x.kind,.int .i64 x.src,.int .i64 x.dst,v0,.int .i64 x.pi,.int .i64 x.hi,.int .i64 x.beta,.int .i64 x.rid,.int .i64 x.seq,v1]] w fun e w'=>e=.returned (.bool (validPkt x))∧Ext w w':=by
 obtain⟨o,cap,rfl,hsm⟩:=r0.shape;obtain⟨oy,cy,rfl,hsy⟩:=r1.shape;have HVP:=Ac (validPkt_eq x);obtain⟨hx0,HB0⟩:=ea1 w (.cells #[.int .i64 x.kind,.int .i64 x.src,.int .i64 x.dst,.slice o x.path.parts.length cap,.int .i64 x.pi,.int .i64 x.hi,.int .i64 x.beta,.int .i64 x.rid,.int .i64 x.seq,.slice oy x.pay.length cy] 35);replace HB0:=Ac HB0
 go_enter Tryz.func140,Tryz.ntmps140
 have cf1:=blk10 HB0.out
 go_wp2_with fail
 refine(i_InRange _ _ _ _).mono ?_;rintro e _ ⟨rfl,rfl⟩
 cases b1:inR x.kind 1 3
 ·
  have HE:=Ac (show validPkt x=false by rw [HVP.out,b1];simp)
  go_wp2_with fail
  go_ret
  exact⟨Ah HE.out.symm,hx0⟩
 go_wp2_with fail
 refine(i_EncodablePath x.path _ _ (r0.ext hx0)).mono ?_;rintro e w2 ⟨rfl,hz2⟩
 cases b2:encPath x.path
 ·
  have HE:=Ac (show validPkt x=false by rw [HVP.out,b2];simp)
  try clear cf1
  have cf2:=blk10 (Aa hz2 HB0.out)
  go_wp2_with fail
  go_ret
  exact⟨Ah HE.out.symm,(hx0.t hz2)⟩
 have HEC:=Ac (enc_curAs b2)
 by_cases b0:x.path.parts.length=0
 ·
  have h0:((x.path.parts.length:Int) == 0)=true:=by rw [beq_iff_eq];omega
  have hh:hasHop x=false:=by
   cases h:hasHop x
   ·
    rfl
   have:=(Cc h).1;omega
  clear b0;have HE:=Ac (show validPkt x=false by rw [HVP.out,hh];simp)
  try clear cf1
  have cf3:=blk10 (Aa hz2 HB0.out)
  go_wp2_with fail
  go_ret
  exact⟨Ah HE.out.symm,(hx0.t hz2)⟩
 have h0:((x.path.parts.length:Int) == 0)=false:=by rw [beq_eq_false_iff_ne];omega
 try clear cf1
 have cf4:=blk10 (Aa hz2 HB0.out)
 go_wp2_with fail
 refine(i_CurrentAS x _ _ _ (r0.ext (hx0.t hz2))).mono ?_;rintro e w3 ⟨rfl,hz3⟩
 by_cases b3:curAs x<0
 ·
  have hh:hasHop x=false:=by rw [HEC.out];exact decide_eq_false (by omega)
  have HE:=Ac (show validPkt x=false by rw [HVP.out,hh];simp)
  try clear cf4
  have cf5:=blk10 (Aa (hz2.t hz3) HB0.out)
  go_wp2_with fail
  go_ret
  exact⟨Ah HE.out.symm,((hx0.t hz2).t hz3)⟩
 have BH:Hid (hasHop x=true):=Ac (by rw [HEC.out];exact decide_eq_true (by omega))
 try clear cf4
 have cf6:=blk10 (Aa (hz2.t hz3) HB0.out)
 go_wp2_with fail
 refine(i_isResidue _ _).mono ?_;rintro e _ ⟨rfl,rfl⟩
 cases b4:isRes x.beta
 ·
  have HE:=Ac (show validPkt x=false by rw [HVP.out,b4];simp)
  go_wp2_with fail
  go_ret
  exact⟨Ah HE.out.symm,((hx0.t hz2).t hz3)⟩
 go_wp2_with fail
 obtain⟨we,hwe⟩:∃ we:World,we=w3:=⟨_,rfl⟩
 subst hwe
 go_loopg [37] x.path.parts.length (fun gk i wr=>∃ k:Nat,gk+k=x.path.parts.length∧i=.int .i64 k∧Hid ((x.path.parts.take k).all (fun y=>decide (0<y.hops.length))=true)∧Ext we wr)
 case atStart=>exact⟨0,rfl,rfl,Ac rfl,Ab _⟩
 case round=>
  obtain⟨k,hgk,rfl,HK,hx⟩:=hrel
  by_cases hlt:k<x.path.parts.length
  ·
   have HG:=Ac (show gk - 1+(k+1)=x.path.parts.length∧gk - 1<gk by omega);clear hgk;obtain⟨b,off,oh,ch,rfl,hc,hr⟩:=Bx (r0.ext (((hx0.t hz2).t hz3).t hx)) k hlt;have h4:(k:Int)<(x.path.parts.length:Int):=by omega
   try clear cf6
   have cf7:=blk10 (Aa ((hz2.t hz3).t hx) HB0.out);obtain⟨hx1,HB1⟩:=ea1 wr (.cells #[.int .i64 x.path.parts[k].kind,.int .i64 x.path.parts[k].ts,.int .i64 x.path.parts[k].beta,.slice oh x.path.parts[k].hops.length ch] 99);replace HB1:=Ac HB1
   by_cases h5:0<x.path.parts[k].hops.length
   ·
    have h6:((x.path.parts[k].hops.length:Int) == 0)=false:=by rw [beq_eq_false_iff_ne];omega
    have HK2:=Ac (all_snocB hlt HK.out (decide_eq_true h5));have cf8:=blk10 (Aa (((hz2.t hz3).t hx).t hx1) HB0.out);have cf9:=blk4 HB1.out;have cf10:=Ag hx1 hc
    go_wp2_with fail
    go_roundg (gk - 1)
    case measure=>exact HG.out.2
    case rel=>exact⟨k+1,HG.out.1,by go_num,HK2,(hx.t hx1)⟩
   have h6:((x.path.parts[k].hops.length:Int) == 0)=true:=by rw [beq_iff_eq];omega
   have HE:=Ac (show validPkt x=false by rw [HVP.out,partsFull_no hlt h5];simp);have cf11:=blk10 (Aa (((hz2.t hz3).t hx).t hx1) HB0.out);have cf12:=blk4 HB1.out;have cf13:=Ag hx1 hc
   go_wp2_with fail
   go_ret
   exact⟨Ah HE.out.symm,((((hx0.t hz2).t hz3).t hx).t hx1)⟩
  obtain rfl:k=x.path.parts.length:=by omega
  have HPF:Hid (partsFull x.path.parts=true):=by have h:=HK.out;rw [List.take_length] at h;exact Ac h
  have HT:=Ac (show validPkt x=pktTail x by rw [HVP.out,b1,b2,BH.out,b4,HPF.out];rfl);have HPT:=Ac (show pktTail x=(inR x.src 0 7 && inR x.dst 0 7 && inR x.rid 0 100000 && inR x.seq 0 100000 && decide (x.pay.length≤40)) from rfl)
  try clear cf6
  have cf14:=blk10 (Aa ((hz2.t hz3).t hx) HB0.out)
  go_wp2_with fail
  refine(i_InRange _ _ _ _).mono ?_;rintro e _ ⟨rfl,rfl⟩
  cases c1:inR x.src 0 7
  ·
   have HE:=Ac (show validPkt x=false by rw [HT.out,HPT.out];simp [c1])
   go_wp2_with fail
   go_ret
   exact⟨Ah HE.out.symm,(((hx0.t hz2).t hz3).t hx)⟩
  go_wp2_with fail
  refine(i_InRange _ _ _ _).mono ?_;rintro e _ ⟨rfl,rfl⟩
  cases c2:inR x.dst 0 7
  ·
   have HE:=Ac (show validPkt x=false by rw [HT.out,HPT.out];simp [c2])
   go_wp2_with fail
   go_ret
   exact⟨Ah HE.out.symm,(((hx0.t hz2).t hz3).t hx)⟩
  go_wp2_with fail
  refine(i_InRange _ _ _ _).mono ?_;rintro e _ ⟨rfl,rfl⟩
  cases c3:inR x.rid 0 100000
  ·
   have HE:=Ac (show validPkt x=false by rw [HT.out,HPT.out];simp [c3])
   go_wp2_with fail
   go_ret
   exact⟨Ah HE.out.symm,(((hx0.t hz2).t hz3).t hx)⟩
  go_wp2_with fail
  refine(i_InRange _ _ _ _).mono ?_;rintro e _ ⟨rfl,rfl⟩
  cases c4:inR x.seq 0 100000
  ·
   have HE:=Ac (show validPkt x=false by rw [HT.out,HPT.out];simp [c4])
   go_wp2_with fail
   go_ret
   exact⟨Ah HE.out.symm,(((hx0.t hz2).t hz3).t hx)⟩
  by_cases c5:x.pay.length≤40
  ·
   have c6:(x.pay.length:Int)≤40:=by omega
   have HE:=Ac (show validPkt x=true by rw [HT.out,HPT.out,c1,c2,c3,c4,decide_eq_true c5];rfl)
   go_wp2_with fail
   go_ret
   exact⟨Ah (by rw [HE.out]),(((hx0.t hz2).t hz3).t hx)⟩
  have c6:¬ (x.pay.length:Int)≤40:=by omega
  have HE:=Ac (show validPkt x=false by rw [HT.out,HPT.out,decide_eq_false c5];simp)
  go_wp2_with fail
  go_ret
  exact⟨Ah (by rw [HE.out];first | exact decide_eq_false c6 | (simp;omega)),(((hx0.t hz2).t hz3).t hx)⟩
theorem s_ValidPacket (x:Pkt) (v0 v1:Value) (w:World) (r0:RdS Part.rep w v0 x.path.parts) (r1:RdS Rep.byte w v1 x.pay) :
  Calls Tryz.prog 98 #[.agg #[.int .i64 x.kind,.int .i64 x.src,.int .i64 x.dst,v0,.int .i64 x.pi,.int .i64 x.hi,.int .i64 x.beta,.int .i64 x.rid,.int .i64 x.seq,v1]] w fun e w'=>e=.returned (.bool (validPkt x))∧Ext w w':=by
 obtain⟨o,cap,rfl,hsm⟩:=r0.shape;obtain⟨oy,cy,rfl,hsy⟩:=r1.shape;have HVP:=Ac (validPkt_eq x);obtain⟨hx0,HB0⟩:=ea1 w (.cells #[.int .i64 x.kind,.int .i64 x.src,.int .i64 x.dst,.slice o x.path.parts.length cap,.int .i64 x.pi,.int .i64 x.hi,.int .i64 x.beta,.int .i64 x.rid,.int .i64 x.seq,.slice oy x.pay.length cy] 35);replace HB0:=Ac HB0
 go_enter Tryz.func98,Tryz.ntmps98
 have cf1:=blk10 HB0.out
 go_wp2_with fail
 refine(s_l1In _ _ _ _).mono ?_;rintro e _ ⟨rfl,rfl⟩
 cases b1:inR x.kind 1 3
 ·
  have HE:=Ac (show validPkt x=false by rw [HVP.out,b1];simp)
  go_wp2_with fail
  go_ret
  exact⟨Ah HE.out.symm,hx0⟩
 go_wp2_with fail
 refine(s_EncodablePath x.path _ _ (r0.ext hx0)).mono ?_;rintro e w2 ⟨rfl,hz2⟩
 cases b2:encPath x.path
 ·
  have HE:=Ac (show validPkt x=false by rw [HVP.out,b2];simp)
  try clear cf1
  have cf2:=blk10 (Aa hz2 HB0.out)
  go_wp2_with fail
  go_ret
  exact⟨Ah HE.out.symm,(hx0.t hz2)⟩
 have HEC:=Ac (enc_curAs b2)
 try clear cf1
 have cf3:=blk10 (Aa hz2 HB0.out)
 go_wp2_with fail
 refine(s_l1In _ _ _ _).mono ?_;rintro e _ ⟨rfl,rfl⟩
 cases b3:inR x.pi 0 ((x.path.parts.length:Int) - 1)
 ·
  have hh:hasHop x=false:=by unfold hasHop;rw [b3];rfl
  have HE:=Ac (show validPkt x=false by rw [HVP.out,hh];simp)
  go_wp2_with fail
  go_ret
  exact⟨Ah HE.out.symm,(hx0.t hz2)⟩
 go_wp2_with fail
 refine(s_l3Ok _ _).mono ?_;rintro e _ ⟨rfl,rfl⟩
 cases b4:isRes x.beta
 ·
  have HE:=Ac (show validPkt x=false by rw [HVP.out,b4];simp)
  go_wp2_with fail
  go_ret
  exact⟨Ah HE.out.symm,(hx0.t hz2)⟩
 go_wp2_with fail
 obtain⟨we,hwe⟩:∃ we:World,we=w2:=⟨_,rfl⟩
 subst hwe
 go_loopg [3] x.path.parts.length (fun gk i wr=>∃ k:Nat,gk+k=x.path.parts.length∧i=.int .i64 k∧Hid ((x.path.parts.take k).all (fun y=>decide (0<y.hops.length))=true)∧Ext we wr)
 case atStart=>exact⟨0,rfl,rfl,Ac rfl,Ab _⟩
 case round=>
  obtain⟨k,hgk,rfl,HK,hx⟩:=hrel
  by_cases hlt:k<x.path.parts.length
  ·
   have HG:=Ac (show gk - 1+(k+1)=x.path.parts.length∧gk - 1<gk by omega);clear hgk;obtain⟨b,off,oh,ch,rfl,hc,hr⟩:=Bx (r0.ext ((hx0.t hz2).t hx)) k hlt;have h4:(k:Int)<(x.path.parts.length:Int):=by omega
   by_cases h5:0<x.path.parts[k].hops.length
   ·
    have h6:((x.path.parts[k].hops.length:Int) == 0)=false:=by rw [beq_eq_false_iff_ne];omega
    have HK2:=Ac (all_snocB hlt HK.out (decide_eq_true h5))
    try clear cf3
    have cf4:=blk10 (Aa (hz2.t hx) HB0.out)
    go_wp2_with fail
    go_roundg (gk - 1)
    case measure=>exact HG.out.2
    case rel=>exact⟨k+1,HG.out.1,by go_num,HK2,hx⟩
   have h6:((x.path.parts[k].hops.length:Int) == 0)=true:=by rw [beq_iff_eq];omega
   have HE:=Ac (show validPkt x=false by rw [HVP.out,partsFull_no hlt h5];simp)
   try clear cf3
   have cf5:=blk10 (Aa (hz2.t hx) HB0.out)
   go_wp2_with fail
   go_ret
   exact⟨Ah HE.out.symm,((hx0.t hz2).t hx)⟩
  obtain rfl:k=x.path.parts.length:=by omega
  have HPF:Hid (partsFull x.path.parts=true):=by have h:=HK.out;rw [List.take_length] at h;exact Ac h
  obtain⟨p0,p1,p2⟩:=hasHop_at b3;have hcp:=curPart_at p2;have HCH:=Ac (show hasHop x=inR x.hi 0 (((curPart x).hops.length:Int) - 1) by unfold hasHop;rw [b3];rfl);obtain⟨b,off,oh,ch,rfl,hc,hr⟩:=Bx (r0.ext ((hx0.t hz2).t hx)) x.pi.toNat p2;rw [← hcp] at hc hr;clear hcp;obtain⟨oh',ch',eh,hhl⟩:=hr.shape;have hhl2:(curPart x).hops.length≤9223372036854775807:=hhl;clear eh hhl;have hw2:IntKind.i64.wrap (((curPart x).hops.length:Int) - 1)=((curPart x).hops.length:Int) - 1:=IntWalk.i64_in _ (by omega);have HPT:=Ac (show pktTail x=(inR x.src 0 7 && inR x.dst 0 7 && inR x.rid 0 100000 && inR x.seq 0 100000 && decide (x.pay.length≤40)) from rfl)
  cases c0:inR x.hi 0 (((curPart x).hops.length:Int) - 1)
  ·
   have HE:=Ac (show validPkt x=false by rw [HVP.out,HCH.out,HPT.out];simp [c0])
   try clear cf3
   have cf6:=blk10 (Aa (hz2.t hx) HB0.out)
   go_wp2_with fail
   refine Al (by kernel_rfl) (by kernel_rfl) ?_;have q0:=Bp cf6;have q10:=Bm hc
   repeat (first | go_big_quiet_step (((first | (go_at_call 117;exact Am (s_l1In _ _ _ _))))) | quiet_step (((first | (go_at_call 117;exact Am (s_l1In _ _ _ _))))))
   refine wpQuiet_nil ?_;intro w5 hw5;have hz5:=Bc hw5;clear hw5 q0 q10;clear hw2
   try clear cf6
   have cf7:=blk10 (Aa ((hz2.t hx).t hz5) HB0.out);have cf8:=Ag hz5 hc
   go_wp2_with fail
   go_ret
   exact⟨Ah HE.out.symm,(((hx0.t hz2).t hx).t hz5)⟩
  cases c1:inR x.src 0 7
  ·
   have HE:=Ac (show validPkt x=false by rw [HVP.out,HCH.out,HPT.out];simp [c1])
   try clear cf3
   have cf9:=blk10 (Aa (hz2.t hx) HB0.out)
   go_wp2_with fail
   refine Al (by kernel_rfl) (by kernel_rfl) ?_;have q0:=Bp cf9;have q10:=Bm hc
   repeat (first | go_big_quiet_step (((first | (go_at_call 117;exact Am (s_l1In _ _ _ _))))) | quiet_step (((first | (go_at_call 117;exact Am (s_l1In _ _ _ _))))))
   refine wpQuiet_nil ?_;intro w6 hw6;have hz6:=Bc hw6;clear hw6 q0 q10;clear hw2
   try clear cf9
   have cf10:=blk10 (Aa ((hz2.t hx).t hz6) HB0.out);have cf11:=Ag hz6 hc
   go_wp2_with fail
   go_ret
   exact⟨Ah HE.out.symm,(((hx0.t hz2).t hx).t hz6)⟩
  cases c2:inR x.dst 0 7
  ·
   have HE:=Ac (show validPkt x=false by rw [HVP.out,HCH.out,HPT.out];simp [c2])
   try clear cf3
   have cf12:=blk10 (Aa (hz2.t hx) HB0.out)
   go_wp2_with fail
   refine Al (by kernel_rfl) (by kernel_rfl) ?_;have q0:=Bp cf12;have q10:=Bm hc
   repeat (first | go_big_quiet_step (((first | (go_at_call 117;exact Am (s_l1In _ _ _ _))))) | quiet_step (((first | (go_at_call 117;exact Am (s_l1In _ _ _ _))))))
   refine wpQuiet_nil ?_;intro w7 hw7;have hz7:=Bc hw7;clear hw7 q0 q10;clear hw2
   try clear cf12
   have cf13:=blk10 (Aa ((hz2.t hx).t hz7) HB0.out);have cf14:=Ag hz7 hc
   go_wp2_with fail
   go_ret
   exact⟨Ah HE.out.symm,(((hx0.t hz2).t hx).t hz7)⟩
  cases c3:inR x.rid 0 100000
  ·
   have HE:=Ac (show validPkt x=false by rw [HVP.out,HCH.out,HPT.out];simp [c3])
   try clear cf3
   have cf15:=blk10 (Aa (hz2.t hx) HB0.out)
   go_wp2_with fail
   refine Al (by kernel_rfl) (by kernel_rfl) ?_;have q0:=Bp cf15;have q10:=Bm hc
   repeat (first | go_big_quiet_step (((first | (go_at_call 117;exact Am (s_l1In _ _ _ _))))) | quiet_step (((first | (go_at_call 117;exact Am (s_l1In _ _ _ _))))))
   refine wpQuiet_nil ?_;intro w8 hw8;have hz8:=Bc hw8;clear hw8 q0 q10;clear hw2
   try clear cf15
   have cf16:=blk10 (Aa ((hz2.t hx).t hz8) HB0.out);have cf17:=Ag hz8 hc
   go_wp2_with fail
   go_ret
   exact⟨Ah HE.out.symm,(((hx0.t hz2).t hx).t hz8)⟩
  cases c4:inR x.seq 0 100000
  ·
   have HE:=Ac (show validPkt x=false by rw [HVP.out,HCH.out,HPT.out];simp [c4])
   try clear cf3
   have cf18:=blk10 (Aa (hz2.t hx) HB0.out)
   go_wp2_with fail
   refine Al (by kernel_rfl) (by kernel_rfl) ?_;have q0:=Bp cf18;have q10:=Bm hc
   repeat (first | go_big_quiet_step (((first | (go_at_call 117;exact Am (s_l1In _ _ _ _))))) | quiet_step (((first | (go_at_call 117;exact Am (s_l1In _ _ _ _))))))
   refine wpQuiet_nil ?_;intro w9 hw9;have hz9:=Bc hw9;clear hw9 q0 q10;clear hw2
   try clear cf18
   have cf19:=blk10 (Aa ((hz2.t hx).t hz9) HB0.out);have cf20:=Ag hz9 hc
   go_wp2_with fail
   go_ret
   exact⟨Ah HE.out.symm,(((hx0.t hz2).t hx).t hz9)⟩
  by_cases c5:x.pay.length≤40
  ·
   have c6:decide ((x.pay.length:Int)≤40)=true:=decide_eq_true (by omega);have HE:=Ac (show validPkt x=true by rw [HVP.out,HCH.out,HPT.out,b1,b2,b4,HPF.out,c0,c1,c2,c3,c4,decide_eq_true c5];rfl)
   try clear cf3
   have cf21:=blk10 (Aa (hz2.t hx) HB0.out)
   go_wp2_with fail
   refine Al (by kernel_rfl) (by kernel_rfl) ?_;have q0:=Bp cf21;have q10:=Bm hc
   repeat (first | go_big_quiet_step (((first | (go_at_call 117;exact Am (s_l1In _ _ _ _))))) | quiet_step (((first | (go_at_call 117;exact Am (s_l1In _ _ _ _))))))
   refine wpQuiet_nil ?_;intro w10 hw10;have hz10:=Bc hw10;clear hw10 q0 q10;clear hw2
   try clear cf21
   have cf22:=blk10 (Aa ((hz2.t hx).t hz10) HB0.out);have cf23:=Ag hz10 hc
   go_wp2_with fail
   go_ret
   exact⟨Ah (by rw [HE.out]),(((hx0.t hz2).t hx).t hz10)⟩
  have c6:decide ((x.pay.length:Int)≤40)=false:=decide_eq_false (by omega);have HE:=Ac (show validPkt x=false by rw [HVP.out,HCH.out,HPT.out,decide_eq_false c5];simp)
  try clear cf3
  have cf24:=blk10 (Aa (hz2.t hx) HB0.out)
  go_wp2_with fail
  refine Al (by kernel_rfl) (by kernel_rfl) ?_;have q0:=Bp cf24;have q10:=Bm hc
  repeat (first | go_big_quiet_step (((first | (go_at_call 117;exact Am (s_l1In _ _ _ _))))) | quiet_step (((first | (go_at_call 117;exact Am (s_l1In _ _ _ _))))))
  refine wpQuiet_nil ?_;intro w11 hw11;have hz11:=Bc hw11;clear hw11 q0 q10;clear hw2
  try clear cf24
  have cf25:=blk10 (Aa ((hz2.t hx).t hz11) HB0.out);have cf26:=Ag hz11 hc
  go_wp2_with fail
  go_ret
  exact⟨Ah (by rw [HE.out]),(((hx0.t hz2).t hx).t hz11)⟩
end
end Go.Proofs.YteodlcpeoaggbaaGreat
