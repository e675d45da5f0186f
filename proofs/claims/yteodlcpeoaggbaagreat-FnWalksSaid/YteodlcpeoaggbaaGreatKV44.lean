/- What these laws need: FnWalks: Contracts of segments: their chaining values, codes and ASes; joins of segments. The laws' own comparisons: what is the same compares as the same. -/
import Derived.Test.YteodlcpeoaggbaaGreatKV16
import Derived.Test.YteodlcpeoaggbaaGreatKV39
namespace Go.Proofs.YteodlcpeoaggbaaGreat
section
open Go.ChangeShapes Go.WideShapes Go.ChangeAt Go.RowKit Go.Deep
set_option maxRecDepth 100000
set_option maxHeartbeats 8000000
theorem l_sameHops (a:List Hop) (va:Value) (b:List Hop) (vb:Value) (w:World) (ha:RdS Hop.rep w va a) (hb:RdS Hop.rep w vb b) :
  Calls Tryz.prog 181 #[va,vb] w fun e w'=>e=.returned (.bool (decide (a=b)))∧Ext w w':=by
 obtain⟨oa,ca,rfl,hsa⟩:=ha.shape;obtain⟨ob,cb,rfl,hsb⟩:=hb.shape
 by_cases hne:a.length=b.length
 ·
  have Hne:=Ac hne;have t1:((a.length:Int) != (b.length:Int))=false:=by simp [hne]
  clear hne
  go_enter Tryz.func181,Tryz.ntmps181
  go_wp2
  go_loopw [5] (fun i wr=>∃ (k:Nat),k≤a.length∧i=.int .i64 k∧a.take k=b.take k∧Ext w wr) (fun i _=>a.length - (intOf i).toNat)
  case atStart=>exact⟨0,Nat.zero_le _,rfl,rfl,Ab _⟩
  case round=>
   obtain⟨k,hk,rfl,htk,hx⟩:=hrel;have Htk:=Ac htk;clear htk
   by_cases hlt:k<a.length
   ·
    have hlb:k<b.length:=by rw [← Hne.out];exact hlt
    obtain⟨b1,off1,rfl,hc1⟩:=Ca (ha.ext hx) k hlt;obtain⟨b2,off2,rfl,hc2⟩:=Ca (hb.ext hx) k hlb
    go_wp2
    go_still_tail 8,(by kernel_rfl)
    go_wp2_with fail
    all_goals first
     | (go_ret; exact ⟨Ah (Eq.symm (decide_eq_false (by rintro rfl; contradiction))), hx.drew⟩)
     | exact ⟨⟨k + 1, by omega, by go_num, take_snoc2 Htk.out hlt hlb (Hop.ext' (by assumption) (by assumption) (by assumption) (by assumption) (by assumption)), hx.drew⟩, by simp [intOf]; omega⟩
   have hab:decide (a=b)=true:=by
    have:=Htk.out;rw [List.take_of_length_le (by omega),List.take_of_length_le (by rw [← Hne.out];omega)] at this
    simp [this]
   have Hab:=Ac hab;clear hab
   go_wp2
   go_ret
   exact⟨Ah Hab.out.symm,hx⟩
 have t1:((a.length:Int) != (b.length:Int))=true:=by simp [bne_iff_ne];omega
 have hab:decide (a=b)=false:=by
  rw [decide_eq_false_iff_not];rintro rfl;exact hne rfl
 have Hab:=Ac hab;clear hab;clear hne
 go_enter Tryz.func181,Tryz.ntmps181
 go_wp2
 go_ret
 exact⟨Ah Hab.out.symm,Ab _⟩
theorem cells4_ext {w w':World} (h:Ext w w') {p0 p1 p2 p3:Addr} {a b c d:Value} (k:w.cell? p0=some a∧w.cell? p1=some b∧w.cell? p2=some c∧w.cell? p3=some d):w'.cell? p0=some a∧w'.cell? p1=some b∧w'.cell? p2=some c∧w'.cell? p3=some d:=
 ⟨By h k.1,By h k.2.1,By h k.2.2.1,By h k.2.2.2⟩
theorem l_sameSteps (a:List Step) (va:Value) (b:List Step) (vb:Value) (w:World) (ha:RdS Step.rep w va a) (hb:RdS Step.rep w vb b) :
  Calls Tryz.prog 22 #[va,vb] w fun e w'=>e=.returned (.bool (decide (a=b)))∧Ext w w':=by
 obtain⟨oa,ca,rfl,hsa⟩:=ha.shape;obtain⟨ob,cb,rfl,hsb⟩:=hb.shape
 by_cases hne:a.length=b.length
 ·
  have Hne:=Ac hne;have t1:((a.length:Int) != (b.length:Int))=false:=by simp [hne]
  clear hne
  go_enter Tryz.func22,Tryz.ntmps22
  go_wp2
  go_loopw [5] (fun i wr=>∃ (k:Nat),k≤a.length∧i=.int .i64 k∧a.take k=b.take k∧Ext w wr) (fun i _=>a.length - (intOf i).toNat)
  case atStart=>exact⟨0,Nat.zero_le _,rfl,rfl,Ab _⟩
  case round=>
   obtain⟨k,hk,rfl,htk,hx⟩:=hrel;have Htk:=Ac htk;clear htk
   by_cases hlt:k<a.length
   ·
    have hlb:k<b.length:=by rw [← Hne.out];exact hlt
    obtain⟨b1,off1,rfl,hc1⟩:=Step.at (ha.ext hx) k hlt;obtain⟨b2,off2,rfl,hc2⟩:=Step.at (hb.ext hx) k hlb
    go_wp2
    go_still_tail 8,(by kernel_rfl)
    go_wp2_with fail
    all_goals first
     | (go_ret; exact ⟨Ah (Eq.symm (decide_eq_false (by rintro rfl; contradiction))), hx.drew⟩)
     | exact ⟨⟨k + 1, by omega, by go_num, take_snoc2 Htk.out hlt hlb (Step.ext' (by assumption) (by assumption) (by assumption)), hx.drew⟩, by simp [intOf]; omega⟩
   have hab:decide (a=b)=true:=by
    have:=Htk.out;rw [List.take_of_length_le (by omega),List.take_of_length_le (by rw [← Hne.out];omega)] at this
    simp [this]
   have Hab:=Ac hab;clear hab
   go_wp2
   go_ret
   exact⟨Ah Hab.out.symm,hx⟩
 have t1:((a.length:Int) != (b.length:Int))=true:=by simp [bne_iff_ne];omega
 have hab:decide (a=b)=false:=by
  rw [decide_eq_false_iff_not];rintro rfl;exact hne rfl
 have Hab:=Ac hab;clear hab;clear hne
 go_enter Tryz.func22,Tryz.ntmps22
 go_wp2
 go_ret
 exact⟨Ah Hab.out.symm,Ab _⟩
theorem l_same (a:List Int) (va:Value) (b:List Int) (vb:Value) (w:World) (ha:RdS Rep.byte w va a) (hb:RdS Rep.byte w vb b) :
  Calls Tryz.prog 96 #[va,vb] w fun e w'=>e=.returned (.bool (decide (a=b)))∧Ext w w':=by
 obtain⟨oa,ca,rfl,hsa⟩:=ha.shape;obtain⟨ob,cb,rfl,hsb⟩:=hb.shape
 by_cases hne:a.length=b.length
 ·
  have Hne:=Ac hne;have t1:((a.length:Int) != (b.length:Int))=false:=by simp [hne]
  clear hne
  go_enter Tryz.func96,Tryz.ntmps96
  go_wp2
  go_loopg [5] a.length (fun gk i wr=>∃ (k:Nat),gk+k=a.length∧i=.int .i64 k∧Hid (a.take k=b.take k)∧Ext w wr)
  case atStart=>exact⟨0,rfl,rfl,Ac rfl,Ab _⟩
  case round=>
   obtain⟨k,hgk,rfl,Htk,hx⟩:=hrel
   by_cases hlt:k<a.length
   ·
    have hlb:k<b.length:=by rw [← Hne.out];exact hlt
    have hg0:gk - 1+(k+1)=a.length∧gk - 1<gk:=by omega
    have HG:=Ac hg0;clear hg0 hgk;obtain⟨b1,off1,rfl,hc1⟩:=bytes_at (ha.ext hx) k hlt;obtain⟨b2,off2,rfl,hc2⟩:=bytes_at (hb.ext hx) k hlb
    go_wp2_with fail
    refine Al (by kernel_rfl) (by kernel_rfl) ?_;have q0:=Bd hc1;have q1:=Bd hc2
    repeat (first | go_big_quiet_step (fail) | quiet_step (fail))
    refine wpQuiet_nil ?_;intro w1 hw1;have hz1:=Bc hw1;clear hw1 q0 q1
    by_cases he:a[k]=b[k]
    ·
     have he2:(a[k] != b[k])=false:=by simp [he]
     have HT:=Ac (take_snoc2 Htk.out hlt hlb he);clear he
     go_wp2_with fail
     go_roundg (gk - 1)
     case measure=>exact HG.out.2
     case rel=>exact⟨k+1,HG.out.1,by go_num,HT,hx.trans hz1⟩
    have he2:(a[k] != b[k])=true:=by simp [he]
    have HF:Hid (decide (a=b)=false):=Ac (decide_eq_false (by rintro rfl;exact he rfl));clear he
    go_wp2_with fail
    go_ret
    exact⟨Ah HF.out.symm,hx.trans hz1⟩
   have hab:decide (a=b)=true:=by
    have:=Htk.out;rw [List.take_of_length_le (by omega),List.take_of_length_le (by rw [← Hne.out];omega)] at this
    simp [this]
   have Hab:=Ac hab;clear hab
   go_wp2_with fail
   go_ret
   exact⟨Ah Hab.out.symm,hx⟩
 have t1:((a.length:Int) != (b.length:Int))=true:=by simp [bne_iff_ne];omega
 have hab:decide (a=b)=false:=by
  rw [decide_eq_false_iff_not];rintro rfl;exact hne rfl
 have Hab:=Ac hab;clear hab;clear hne
 go_enter Tryz.func96,Tryz.ntmps96
 go_wp2
 go_ret
 exact⟨Ah Hab.out.symm,Ab _⟩
theorem l_samePartT (x:Part) (va vb:Value) (w:World) (ra:RdS Hop.rep w va x.hops) (rb:RdS Hop.rep w vb x.hops) :
  Calls Tryz.prog 147 #[.agg #[.int .i64 x.kind,.int .i64 x.ts,.int .i64 x.beta,va],.agg #[.int .i64 x.kind,.int .i64 x.ts,.int .i64 x.beta,vb]] w fun e w'=>e=.returned (.bool true)∧Ext w w':=by
 obtain⟨oa,ca,rfl,_⟩:=ra.shape;obtain⟨ob,cb,rfl,_⟩:=rb.shape;obtain⟨hx0,HB0⟩:=ea2 w (.cells #[.int .i64 x.kind,.int .i64 x.ts,.int .i64 x.beta,.slice oa x.hops.length ca] 99) (.cells #[.int .i64 x.kind,.int .i64 x.ts,.int .i64 x.beta,.slice ob x.hops.length cb] 99);replace HB0:=Ac HB0
 go_enter Tryz.func147,Tryz.ntmps147
 have e1:(x.kind == x.kind)=true:=by simp
 have e2:(x.ts == x.ts)=true:=by simp
 have e3:(x.beta == x.beta)=true:=by simp
 have cf1:=blk4 HB0.out.1;have cf2:=blk4 HB0.out.2
 go_wp2_with fail
 refine(l_sameHops x.hops _ x.hops _ _ (ra.ext hx0) (rb.ext hx0)).mono ?_;rintro e w1 ⟨rfl,hz1⟩;rw [decide_eq_true (rfl:x.hops=x.hops)]
 try clear cf1
 try clear cf2
 have cf3:=blk4 (Aa hz1 HB0.out.1);have cf4:=blk4 (Aa hz1 HB0.out.2)
 go_wp2_with fail
 go_ret
 exact⟨rfl,(hx0.t hz1)⟩
theorem l_samePathT (p:Pth) (va vb:Value) (w:World) (ra:RdS Part.rep w va p.parts) (rb:RdS Part.rep w vb p.parts) (hl:p.parts.length≤1048576) :
  Calls Tryz.prog 95 #[.agg #[va],.agg #[vb]] w fun e w'=>e=.returned (.bool true)∧Ext w w':=by
 obtain⟨ps⟩:=p;dsimp only at ra rb hl ⊢
 obtain⟨oa,ca,rfl,_⟩:=ra.shape;obtain⟨ob,cb,rfl,_⟩:=rb.shape;obtain⟨hx0,HB0⟩:=ea2 w (.cells #[.slice oa ps.length ca] 30) (.cells #[.slice ob ps.length cb] 30);replace HB0:=Ac HB0
 go_enter Tryz.func95,Tryz.ntmps95
 have t1:((ps.length:Int) != (ps.length:Int))=false:=by simp
 have cf1:=blk1 HB0.out.1;have cf2:=blk1 HB0.out.2
 go_wp2_with fail
 clear t1
 go_loopg [5] ps.length (fun gk i wr=>∃ k:Nat,gk+k=ps.length∧i=.int .i64 k∧Ext ((w.alloc (.cells #[.slice oa ps.length ca] 30)).alloc (.cells #[.slice ob ps.length cb] 30)) wr)
 case atStart=>exact⟨0,by omega,rfl,Ab _⟩
 case round=>
  obtain⟨k,hgk,rfl,hx⟩:=hrel;have HGK:=Ac hgk;clear hgk
  by_cases hlt:k<ps.length
  ·
   have hlt2:(k:Int)<(ps.length:Int):=by omega
   obtain⟨b1,off1,o1,c1,rfl,hc1,hr1⟩:=Bx (ra.ext (hx0.t hx)) k hlt;obtain⟨b2,off2,o2,c2,rfl,hc2,hr2⟩:=Bx (rb.ext (hx0.t hx)) k hlt
   obtain⟨x,hpx⟩:∃ x,x=ps[k]:=⟨_,rfl⟩
   rw [← hpx] at hc1 hr1 hc2 hr2;clear hpx
   try clear cf1
   try clear cf2
   have cf3:=blk1 (Aa hx HB0.out.1);have cf4:=blk1 (Aa hx HB0.out.2)
   go_wp2_with fail
   go_wp2_with fail
   refine Ax (.blk [0,1,2,3,4,5,6,7,8,9] (.one 10 (.blk [11] .done))) [] (by kernel_rfl) (by kernel_rfl) ?_
   try clear cf3
   try clear cf4
   have cf5:=blk1 (Aa (hx.t ((Ab _).drew)) HB0.out.1);have cf6:=blk1 (Aa (hx.t ((Ab _).drew)) HB0.out.2);have cf7:=cells4_ext ((Ab _).drew) hc1;have cf8:=cells4_ext ((Ab _).drew) hc2;refine blkStep (fun K HK=>?_);simp only [PK]
   go_wp2_with fail
   refine HK.out _ _ ?_;clear HK K;refine oneStep (fun K HK=>?_);simp only [PK]
   go_wp2_with fail
   refine(l_samePartT x _ _ _ (hr1.ext ((Ab _).drew)) (hr2.ext ((Ab _).drew))).mono ?_;rintro e w1 ⟨rfl,hz1⟩
   try clear cf5
   try clear cf6
   try clear cf7
   try clear cf8
   have cf9:=blk1 (Aa ((hx.t ((Ab _).drew)).t hz1) HB0.out.1);have cf10:=blk1 (Aa ((hx.t ((Ab _).drew)).t hz1) HB0.out.2);have cf11:=cells4_ext (((Ab _).drew).t hz1) hc1;have cf12:=cells4_ext (((Ab _).drew).t hz1) hc2
   go_wp2_with fail
   refine HK.out _ _ hz1 ?_;clear HK K;refine blkStep (fun K HK=>?_);simp only [PK]
   go_wp2_with fail
   refine HK.out _ _ ?_;clear HK K;refine Ap (by kernel_rfl) ?_
   go_wp2_with fail
   go_roundg (gk - 1)
   case measure=>have h2:=HGK.out;omega
   case rel=>exact⟨k+1,by have h2:=HGK.out;omega,congrArg (Value.int .i64) (by first | omega | (unfold wrap64;omega)),((hx.t ((Ab _).drew)).t hz1)⟩
  have hge:¬ (k:Int)<(ps.length:Int):=by omega
  try clear cf1
  try clear cf2
  have cf13:=blk1 (Aa hx HB0.out.1);have cf14:=blk1 (Aa hx HB0.out.2)
  go_wp2_with fail
  go_ret
  exact⟨rfl,(hx0.t hx)⟩
theorem l_samePacketT (x:Pkt) (va ua vb ub:Value) (w:World) (ra:RdS Part.rep w va x.path.parts) (ya:RdS Rep.byte w ua x.pay) (rb:RdS Part.rep w vb x.path.parts) (yb:RdS Rep.byte w ub x.pay) (hl:x.path.parts.length≤1048576) :
  Calls Tryz.prog 47 #[.agg #[.int .i64 x.kind,.int .i64 x.src,.int .i64 x.dst,va,.int .i64 x.pi,.int .i64 x.hi,.int .i64 x.beta,.int .i64 x.rid,.int .i64 x.seq,ua],.agg #[.int .i64 x.kind,.int .i64 x.src,.int .i64 x.dst,vb,.int .i64 x.pi,.int .i64 x.hi,.int .i64 x.beta,.int .i64 x.rid,.int .i64 x.seq,ub]] w fun e w'=>e=.returned (.bool true)∧Ext w w':=by
 obtain⟨oa,ca,rfl,_⟩:=ra.shape;obtain⟨ob,cb,rfl,_⟩:=rb.shape;obtain⟨qa,da,rfl,_⟩:=ya.shape;obtain⟨qb,db,rfl,_⟩:=yb.shape;obtain⟨hx0,HB0⟩:=ea2 w (.cells #[.int .i64 x.kind,.int .i64 x.src,.int .i64 x.dst,.slice oa x.path.parts.length ca,.int .i64 x.pi,.int .i64 x.hi,.int .i64 x.beta,.int .i64 x.rid,.int .i64 x.seq,.slice qa x.pay.length da] 35) (.cells #[.int .i64 x.kind,.int .i64 x.src,.int .i64 x.dst,.slice ob x.path.parts.length cb,.int .i64 x.pi,.int .i64 x.hi,.int .i64 x.beta,.int .i64 x.rid,.int .i64 x.seq,.slice qb x.pay.length db] 35);replace HB0:=Ac HB0
 go_enter Tryz.func47,Tryz.ntmps47
 have e0:(x.kind == x.kind)=true:=by simp
 have e1:(x.src == x.src)=true:=by simp
 have e2:(x.dst == x.dst)=true:=by simp
 have e3:(x.pi == x.pi)=true:=by simp
 have e4:(x.hi == x.hi)=true:=by simp
 have e5:(x.beta == x.beta)=true:=by simp
 have e6:(x.rid == x.rid)=true:=by simp
 have e7:(x.seq == x.seq)=true:=by simp
 have cf1:=blk10 HB0.out.1;have cf2:=blk10 HB0.out.2
 go_wp2_with fail
 refine(l_samePathT x.path _ _ _ (ra.ext hx0) (rb.ext hx0) hl).mono ?_;rintro e w1 ⟨rfl,hz1⟩
 try clear cf1
 try clear cf2
 have cf3:=blk10 (Aa hz1 HB0.out.1);have cf4:=blk10 (Aa hz1 HB0.out.2)
 go_wp2_with fail
 refine(l_same x.pay _ x.pay _ _ (ya.ext (hx0.t hz1)) (yb.ext (hx0.t hz1))).mono ?_;rintro e w2 ⟨rfl,hz2⟩;rw [decide_eq_true (rfl:x.pay=x.pay)]
 try clear cf3
 try clear cf4
 have cf5:=blk10 (Aa (hz1.t hz2) HB0.out.1);have cf6:=blk10 (Aa (hz1.t hz2) HB0.out.2)
 go_wp2_with fail
 go_ret
 exact⟨rfl,((hx0.t hz1).t hz2)⟩
end
end Go.Proofs.YteodlcpeoaggbaaGreat
