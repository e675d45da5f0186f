/- What these laws need: FnFlips, FnReplies: The draws of the code: a path with its topology. -/
import Derived.Test.YtikbeiafobnblaaGreatKR14
import Derived.Test.YtikbeiafobnblaaGreatKR19
import Derived.Test.YtikbeiafobnblaaGreatKR31
namespace Go.Proofs.YtikbeiafobnblaaGreat
section
open Go.ChangeShapes Go.WideShapes Go.ChangeAt Go.RowKit Go.Deep
theorem rev_len4 {p : Pth} (h : p.parts.length ≤ 4) : (revPath p).parts.length ≤ 4 := by simpa [revPath, revParts] using h
set_option maxRecDepth 100000 in
set_option maxHeartbeats 20000000 in
theorem s_DrawPath (code : List Int) (cv : Value) (w : World) (hr : RdS Rep.byte w cv code) (hu : ∀ x ∈ code, U8 x) (hl : code.length ≤ 1048576) :
  Calls Tryz.prog 25 #[cv] w fun e w' => ∃ (v1 v2 vp : Value) (t : Topo) (p : Pth), e = .returned (.tuple #[.agg #[v1, v2], .agg #[vp]]) ∧ TopoOk t ∧ PthDrawn t p ∧ RdS ASd.rep w' v1 t.ases ∧ RdS Lnk.rep w' v2 t.links ∧ RdS Part.rep w' vp p.parts ∧ Ext w w' := by
 have hx0 := ext2 w (.cells #[.slice none 0 0, .slice none 0 0] 33) (.cells #[.slice none 0 0] 26)
 have HB := al2 w (.cells #[.slice none 0 0, .slice none 0 0] 33) (.cells #[.slice none 0 0] 26)
 go_enter Tryz.func25, Tryz.ntmps25
 go_wp2_with fail
 refine (s_l1New code _ _ (hr.ext hx0) hu hl).mono ?_
 rintro e w1 ⟨g, rfl, hgl, hc1, hn1⟩
 have hgw := hc1.lt
 have s : DSt g cv code w1 w1 := ⟨hc1, Chg.refl _ _, hc1⟩
 have B2 := Ext.block hn1 HB.1
 have B3 := Ext.block hn1 HB.2
 have hgr : (w.heap.size + 1) < g := by simp at hgl; omega
 clear HB
 clear hc1
 have cb_B2 := blk2 B2
 have cb_B3 := blk1 B3
 go_wp2_with fail
 clear cb_B2 cb_B3
 have hbs : w1.heap.size ≤ w1.heap.size := s.x.size
 have ltq_B2 : w.heap.size < w1.heap.size := blk_lt B2
 have ltq_B3 : (w.heap.size + 1) < w1.heap.size := blk_lt B3
 refine (s_l22Draw g _ _ _ s.c).mono ?_
 rintro e w2 ⟨v1, v2, vp, t, p, m, rfl, TK, PDr, hm1, hm2, RA, RL, RP0, hcq, hzq⟩
 replace B2 := hzq.blkS B2 (by unfold at1; omega)
 replace B3 := hzq.blkS B3 (by unfold at1; omega)
 replace s := s.draw hcq hzq
 replace RA := Own.upTo RA (Nat.le_refl _)
 replace RL := Own.upTo RL (Nat.le_refl _)
 have RP := Own.lo (Own.toKeep RP0) hm1
 clear RP0
 obtain ⟨o1, c1, rfl, _⟩ := RdS.shape (Own.rd _ RA)
 obtain ⟨o2, c2, rfl, _⟩ := RdS.shape (Own.rd _ RL)
 obtain ⟨op_, cp_, rfl, _⟩ := RdS.shape (Own.rd _ RP)
 have g_RA : g < w1.heap.size := by omega
 have u_RA : w2.heap.size ≤ w2.heap.size := by omega
 have lt_B2_RA : w.heap.size < w1.heap.size := by omega
 have lt_B3_RA : (w.heap.size + 1) < w1.heap.size := by omega
 have g_RL : g < w1.heap.size := by omega
 have u_RL : w2.heap.size ≤ w2.heap.size := by omega
 have lt_B2_RL : w.heap.size < w1.heap.size := by omega
 have lt_B3_RL : (w.heap.size + 1) < w1.heap.size := by omega
 have g_RP : g < w1.heap.size := by omega
 have u_RP : w2.heap.size ≤ w2.heap.size := by omega
 have lt_B2_RP : w.heap.size < w1.heap.size := by omega
 have lt_B3_RP : (w.heap.size + 1) < w1.heap.size := by omega
 clear hzq hcq hbs ltq_B2 ltq_B3
 obtain ⟨wpc, hwc, hbc, hcc⟩ := two_set B2 (.slice o1 t.ases.length c1) (.slice o2 t.links.length c2)
 have HWc := Lib.hid hwc
 clear hwc
 have fc0 := fr_of B2 0
 have fc1 := fr_of B2 1
 have fk0 := fr_of B3 0
 have cb_B2 := blk2 B2
 have cb_B3 := blk1 B3
 go_wp2_with fail
 clear cb_B2 cb_B3
 rw [← HWc.out]
 clear HWc fc0 fc1 fk0
 have hxe := hx0.trans (hn1.ofCur s.x hgl)
 replace RA := Own.at1g RA hcc (by omega)
 replace u_RA := Nat.le_trans u_RA hcc.size
 replace RL := Own.at1g RL hcc (by omega)
 replace u_RL := Nat.le_trans u_RL hcc.size
 replace RP := Own.at1g RP hcc (by omega)
 replace u_RP := Nat.le_trans u_RP hcc.size
 replace B3 := hcc.blkS B3 (by unfold at1; omega)
 replace B2 := hbc
 clear hbc
 replace hxe := hxe.chg hcc (fun i hi => by have h1 : i = w.heap.size := hi; omega)
 try clear hcc
 obtain ⟨wpd, hwd, hbd, hcd⟩ := set1 B3 (.slice op_ p.parts.length cp_)
 rw [← hwd]
 clear hwd
 replace RA := Own.at1g RA hcd (by omega)
 replace u_RA := Nat.le_trans u_RA hcd.size
 replace RL := Own.at1g RL hcd (by omega)
 replace u_RL := Nat.le_trans u_RL hcd.size
 replace RP := Own.at1g RP hcd (by omega)
 replace u_RP := Nat.le_trans u_RP hcd.size
 replace B2 := hcd.blkS B2 (by unfold at1; omega)
 replace B3 := hbd
 clear hbd
 replace hxe := hxe.chg hcd (fun i hi => by have h1 : i = (w.heap.size + 1) := hi; omega)
 try clear hcd
 have cr_B2 := blk2 B2
 have cr_B3 := blk1 B3
 have hwb := (hx0.trans hn1).size
 go_wp2_with fail
 refine bodyPost_ret (v := .tuple #[.agg #[.slice o1 t.ases.length c1, .slice o2 t.links.length c2], .agg #[.slice op_ p.parts.length cp_]]) (by simp [results, Tryz.results25, go_sem, cr_B2, cr_B3]) rfl ?_
 exact ⟨_, _, _, t, p, rfl, TK, PDr, Own.rd _ RA, Own.rd _ RL, Own.rd _ RP, hxe⟩
end
end Go.Proofs.YtikbeiafobnblaaGreat
