/- What these laws need: FnWalks: Whether all steps of a path are allowed, program. -/
import Derived.Test.YteodlcpeoaggbaaGreatKV41
namespace Go.Proofs.YteodlcpeoaggbaaGreat
section
open Go.ChangeShapes Go.WideShapes Go.ChangeAt Go.RowKit Go.Deep
set_option maxRecDepth 100000
set_option maxHeartbeats 2000000
theorem i_FirstForbiddenStep (t:Topo) (v1 v2:Value) (p:Pth) (v:Value) (w:World) (hk:RdS Lnk.rep w v2 t.links) (r:RdS Part.rep w v p.parts) (hl:p.size≤1048576) :
  Calls Tryz.prog 72 #[.agg #[v1,v2],.agg #[v]] w fun e w'=>∃ n:Int,e=.returned (.int .i64 n)∧(n<0↔allowed t p)∧Ext w w':=by
 obtain⟨o,cap,rfl,hsm⟩:=r.shape;obtain⟨hx0,HB⟩:=ea2 w (.cells #[v1,v2] 27) (.cells #[.slice o p.parts.length cap] 30);replace HB:=Ac HB;have cb1:=blk2 HB.out.1;have cb2:=blk1 HB.out.2;have hpl:=pathSteps_len p.parts;have hpz:hopsN p.parts≤1048576:=by unfold Pth.size at hl;omega
 go_enter Tryz.func72,Tryz.ntmps72
 go_wp2_with fail
 refine(i_PathSteps p _ _ (r.ext hx0) hl).mono ?_;rintro e w1 ⟨vs,rfl,OS,hz1⟩
 obtain⟨l,hls⟩:∃ l,l=pathSteps p.parts:=⟨_,rfl⟩
 rw [← hls] at OS hpl;have HLS:=Ac hls;clear hls;have rS:=Bb (hf:=Bu) OS;clear OS;obtain⟨os,cs,rfl,_⟩:=rS.shape;have hx1:=hx0.trans hz1;clear cb1 cb2;have cb1:=blk2 (Aa hz1 HB.out.1);have cb2:=blk1 (Aa hz1 HB.out.2)
 go_wp2_with fail
 clear cb1 cb2
 go_loopg [10] l.length (fun gk i wr=>∃ k:Nat,gk+k=l.length∧i=.int .i64 k∧Hid (∀ j:Nat,j<k→∀ s,l[j]?=some s→stepOk t s=true)∧Ext w1 wr)
 case atStart=>exact⟨0,by omega,rfl,Ac (fun j hj=>by omega),Ab _⟩
 case round=>
  obtain⟨k,hgk,rfl,HP,hx⟩:=hrel;have HGK:=Ac hgk;clear hgk
  by_cases hlt:k<l.length
  ·
   have hlt2:(k:Int)<(l.length:Int):=by omega
   obtain⟨bs,offs,rfl,hcs⟩:=Step.at (rS.ext hx) k hlt
   obtain⟨s,hs⟩:∃ s,s=l[k]:=⟨_,rfl⟩
   rw [← hs] at hcs;have HSK:Hid (l[k]?=some s):=Ac (by rw [hs];exact List.getElem?_eq_getElem hlt);clear hs;have hx3:Ext wr (wr.alloc (.cells #[.int .i64 s.asn,.int .i64 s.ing,.int .i64 s.eg] 79)):=(Ab _).alloc _;have cb1:=blk2 (Aa ((hz1.t hx).t hx3) HB.out.1);have cb3:=blk3 (blk_new wr (.cells #[.int .i64 s.asn,.int .i64 s.ing,.int .i64 s.eg] 79))
   go_wp2_with fail
   refine(i_StepAllowed t _ _ s _ ((hk.ext hx1).ext (hx.t hx3))).mono ?_;rintro e w2 ⟨rfl,hz2⟩;have HX:=Ac ((hx.t hx3).t hz2);clear cb1 cb3 hcs hx3 hz2
   cases hok:stepOk t s
   ·
    have HOK:=Ac hok
    go_wp2_with fail
    go_ret
    refine⟨_,rfl,⟨fun h=>absurd h (by omega),fun h=>?_⟩,hx1.trans HX.out⟩;have h1:=h s (by rw [← HLS.out];exact List.mem_of_getElem? HSK.out);rw [HOK.out] at h1
    cases h1
   have HOK:=Ac hok
   go_wp2_with fail
   go_roundg (gk - 1)
   case measure=>have h2:=HGK.out;omega
   case rel=>
    refine⟨k+1,by have h2:=HGK.out;omega,congrArg (Value.int .i64) (by first | omega | (unfold wrap64;omega)),Ac (fun j hj s2 hs2=>?_),HX.out⟩
    rcases Nat.lt_or_ge j k with h1 | h1
    ·
     exact HP.out j h1 s2 hs2
    obtain rfl:j=k:=by omega
    rw [HSK.out] at hs2
    cases hs2
    exact HOK.out
  have hge:¬ (k:Int)<(l.length:Int):=by omega
  have hkl:k=l.length:=by have h2:=HGK.out;omega
  have HKL:=Ac hkl;clear hkl
  go_wp2_with fail
  go_ret
  refine⟨_,rfl,⟨fun _ s hs=>?_,fun _=>by omega⟩,hx1.trans hx⟩;rw [← HLS.out] at hs;obtain⟨j,hj,hjs⟩:=List.getElem_of_mem hs;exact HP.out j (by rw [HKL.out];exact hj) s (by rw [← hjs];exact List.getElem?_eq_getElem hj)
theorem i_PathAllowed (t:Topo) (v1 v2:Value) (p:Pth) (v:Value) (w:World) (hk:RdS Lnk.rep w v2 t.links) (r:RdS Part.rep w v p.parts) (hl:p.size≤1048576) :
  Calls Tryz.prog 25 #[.agg #[v1,v2],.agg #[v]] w fun e w'=>∃ b:Bool,e=.returned (.bool b)∧(b=true↔allowed t p)∧Ext w w':=by
 obtain⟨o,cap,rfl,hsm⟩:=r.shape;obtain⟨hx0,HB⟩:=ea2 w (.cells #[v1,v2] 27) (.cells #[.slice o p.parts.length cap] 30);replace HB:=Ac HB;have cb1:=blk2 HB.out.1;have cb2:=blk1 HB.out.2
 go_enter Tryz.func25,Tryz.ntmps25
 go_wp2_with fail
 refine(i_FirstForbiddenStep t _ _ p _ _ (hk.ext hx0) (r.ext hx0) hl).mono ?_;rintro e w1 ⟨n,rfl,hn,hz1⟩;have HN:=Ac hn;clear hn cb1 cb2
 go_wp2_with fail
 go_ret
 exact⟨_,rfl,by simpa using HN.out,hx0.trans hz1⟩
end
end Go.Proofs.YteodlcpeoaggbaaGreat
