/- The draw of the code: a path with its topology, and the sizes of paths. No condition. -/
import Derived.Test.YteodlcpeoaggbaaGreatKV23
namespace Go.Proofs.YteodlcpeoaggbaaGreat
section
open Go.ChangeShapes Go.WideShapes Go.ChangeAt Go.RowKit Go.Deep
theorem hopsN_len:∀ (l:List Part) (m:Nat),(∀ x∈l,x.hops.length≤m)→hopsN l≤l.length * m
 | [], m, _ => by simp [hopsN]
 | a :: l, m, h => by
  have h1:=hopsN_len l m (fun x hx=>h x (List.mem_cons_of_mem _ hx));have h2:=h a (by simp);simp only [hopsN,Part.size,List.map_cons,List.sum_cons,List.length_cons] at h1 ⊢
  rw [Nat.succ_mul];omega
theorem pth_size {p:Pth} (h1:p.parts.length≤4) (h2:∀ x∈p.parts,x.hops.length≤5):p.size≤24:=by
 have h3:=hopsN_len p.parts 5 h2;unfold Pth.size;omega
theorem steps_len {p:Pth} (h1:p.parts.length≤4) (h2:∀ x∈p.parts,x.hops.length≤5):(pathSteps p.parts).length≤20:=by
 have h3:=hopsN_len p.parts 5 h2;have h4:=pathSteps_len p.parts;omega
set_option maxRecDepth 100000 in
set_option maxHeartbeats 20000000 in
theorem s_DrawPath (code:List Int) (cv:Value) (w:World) (hr:RdS Rep.byte w cv code) (hu:∀ x∈code,U8 x) (hl:code.length≤1048576) :
  Calls Tryz.prog 6 #[cv] w fun e w'=>∃ (v1 v2 vp:Value) (t:Topo) (p:Pth),e=.returned (.tuple #[.agg #[v1,v2],.agg #[vp]])∧TopoOk t∧PthDrawn t p∧RdS ASd.rep w' v1 t.ases∧RdS Lnk.rep w' v2 t.links∧RdS Part.rep w' vp p.parts∧Ext w w':=by
 obtain⟨hx0,HB⟩:=ea2 w (.cells #[.slice none 0 0,.slice none 0 0] 27) (.cells #[.slice none 0 0] 30)
 go_enter Tryz.func6,Tryz.ntmps6
 go_wp2_with fail
 refine(s_l1New code _ _ (hr.ext hx0) hu hl).mono ?_;rintro e w1 ⟨g,rfl,hgl,hc1,hn1⟩;have hgw:=hc1.lt
 have s:DSt g cv code w1 w1:=⟨hc1,Bq _ _,hc1⟩
 have B2:=Aa hn1 HB.1;have B3:=Aa hn1 HB.2;have hgr:(w.heap.size+1)<g:=by simp at hgl;omega
 clear HB;clear hc1;have cb_B2:=blk2 B2;have cb_B3:=blk1 B3
 go_wp2_with fail
 clear cb_B2 cb_B3;have hbs:w1.heap.size≤w1.heap.size:=s.x.size;have ltq_B2:w.heap.size<w1.heap.size:=blk_lt B2;have ltq_B3:(w.heap.size+1)<w1.heap.size:=blk_lt B3;refine(s_l22Draw g _ _ _ s.c).mono ?_;rintro e w2 ⟨v1,v2,vp,t,p,m,rfl,TK,PDr,hm1,hm2,RA,RL,RP0,hcq,hzq⟩;replace B2:=hzq.blkS B2 (by unfold at1;omega);replace B3:=hzq.blkS B3 (by unfold at1;omega);replace s:=s.draw hcq hzq;replace RA:=Bg RA (Ae _);replace RL:=Bg RL (Ae _);have RP:=Cd (Be RP0) hm1;clear RP0;obtain⟨o1,c1,rfl,_⟩:=Bf (Own.rd _ RA);obtain⟨o2,c2,rfl,_⟩:=Bf (Own.rd _ RL);obtain⟨op_,cp_,rfl,_⟩:=Bf (Own.rd _ RP);have g_RA:g<w1.heap.size:=by omega
 have u_RA:w2.heap.size≤w2.heap.size:=by omega
 have lt_B2_RA:w.heap.size<w1.heap.size:=by omega
 have lt_B3_RA:(w.heap.size+1)<w1.heap.size:=by omega
 have g_RL:g<w1.heap.size:=by omega
 have u_RL:w2.heap.size≤w2.heap.size:=by omega
 have lt_B2_RL:w.heap.size<w1.heap.size:=by omega
 have lt_B3_RL:(w.heap.size+1)<w1.heap.size:=by omega
 have g_RP:g<w1.heap.size:=by omega
 have u_RP:w2.heap.size≤w2.heap.size:=by omega
 have lt_B2_RP:w.heap.size<w1.heap.size:=by omega
 have lt_B3_RP:(w.heap.size+1)<w1.heap.size:=by omega
 clear hzq hcq hbs ltq_B2 ltq_B3;obtain⟨wpc,hwc,hbc,hcc⟩:=two_set B2 (.slice o1 t.ases.length c1) (.slice o2 t.links.length c2);have HWc:=Ac hwc;clear hwc;have fc0:=fr2 B2;have fk0:=fr_of B3 0;have cb_B2:=blk2 B2;have cb_B3:=blk1 B3
 go_wp2_with fail
 clear cb_B2 cb_B3;rw [← HWc.out];clear HWc fc0 fk0;have hxe:=hx0.trans (hn1.ofCur s.x hgl);replace RA:=Af RA hcc (by omega);replace u_RA:=Ad u_RA hcc.size;replace RL:=Af RL hcc (by omega);replace u_RL:=Ad u_RL hcc.size;replace RP:=Af RP hcc (by omega);replace u_RP:=Ad u_RP hcc.size;replace B3:=hcc.blkS B3 (by unfold at1;omega);replace B2:=hbc;clear hbc;replace hxe:=hxe.chg hcc (fun i hi=>by have h1:i=w.heap.size:=hi;omega)
 try clear hcc
 obtain⟨wpd,hwd,hbd,hcd⟩:=set1 B3 (.slice op_ p.parts.length cp_);rw [← hwd];clear hwd;replace RA:=Af RA hcd (by omega);replace u_RA:=Ad u_RA hcd.size;replace RL:=Af RL hcd (by omega);replace u_RL:=Ad u_RL hcd.size;replace RP:=Af RP hcd (by omega);replace u_RP:=Ad u_RP hcd.size;replace B2:=hcd.blkS B2 (by unfold at1;omega);replace B3:=hbd;clear hbd;replace hxe:=hxe.chg hcd (fun i hi=>by have h1:i=(w.heap.size+1):=hi;omega)
 try clear hcd
 have cr_B2:=blk2 B2;have cr_B3:=blk1 B3;have hwb:=(hx0.trans hn1).size
 go_wp2_with fail
 refine bodyPost_ret (by simp [results,Tryz.results6,go_sem,cr_B2,cr_B3];rfl) rfl ?_;exact⟨_,_,_,t,p,rfl,TK,PDr,Own.rd _ RA,Own.rd _ RL,Own.rd _ RP,hxe⟩
end
end Go.Proofs.YteodlcpeoaggbaaGreat
